/- The abstract logic, part 20: contracts beside permuted resources; ends of rounds. Conditions: none (definitions and lemmas over any program). -/
import Derived.Test.YtcickpoefijkmaaGreatDoorPartsB
set_option linter.unusedVariables false
namespace Go.Ab
open Go
theorem ACall.perm {P : Program} {f : FuncId} {args : List AV} {h h' : List Res} {R : AV → List Res → Prop} (p : h.Perm h') (hc : ACall P f args h' R) : ACall P f args h R := by
  intro X w vs hh ha
  refine (hc X w vs (hh.perm p) (ha.keep (Nat.le_refl _) (fun b hb hl => ⟨rfl, by rw [← OO_perm p]; exact hb⟩))).mono ?_
  rintro e w' ⟨u, av, h'', e1, hR, hrel, hh', hk⟩
  exact ⟨u, av, h'', e1, hR, hrel, hh', hk.perm_left p.symm⟩
/-! Ranging over a function, the loop's record under one name. -/
abbrev LP := LoopState → Option Code → Res
def RoundL (lp : LP) (pend : Option Code) (R : AV → List Res → Prop) (e : Exit) (s : St) : Prop :=
  ∃ h1, s.h.Perm (lp .busy pend :: h1) ∧ match e with
    | .normal => R (.v (.bool true)) (lp .ready none :: h1)
    | .ret => R (.v (.bool false)) (lp .done (some .ret) :: h1)
    | .exit id => R (.v (.bool false)) (lp .done (some (.exit id)) :: h1)
    | _ => False
theorem aw_rf {P : Program} {nt : Nat} {Q : Exit → St → Prop} {t : Fr} {h : List Res} {ds : List Nat} {g : Operand} {ps : Array Tmp} {asn body : Code} {f : FuncId} {fs cs : List AV} [Enters P f] (K : Option Code → List Res → Prop) (hg : ev t g = some (.fn (.func f) fs cs))
    (hcall : ∀ fn l r (lp : LP), (lp = fun st pend => .loop l st pend fn nt t ps asn body r) → ACall P f (fs ++ [yv l] ++ cs) (lp .ready none :: .defs r :: h) (fun _ h' => ∃ pend st h'', h'.Perm (lp st pend :: .defs r :: h'') ∧ st ≠ .busy ∧ K pend h''))
    (hn : ∀ r h'', K none h'' → Q .normal ⟨t, .defs r :: h'', r :: ds⟩) (hj : ∀ r h'' c, K (some c) h'' → aw P none nt c Q ⟨t, .defs r :: h'', r :: ds⟩) : aw P none nt (.rangeFunc g ps asn body) Q ⟨t, h, ds⟩ :=
  aw_rangeFunc (K := fun _ _ _ pend h'' => K pend h'') hg (fun fn l r => hcall fn l r _ rfl) (fun _ _ r h'' hk => hn r h'' hk) (fun _ _ r h'' c hk => hj r h'' c hk)
theorem aw_rf_in {P : Program} {nt : Nat} {Q : Exit → St → Prop} {t : Fr} {h : List Res} {ds : List Nat} {l0 : Nat} {g : Operand} {ps : Array Tmp} {asn body : Code} {f : FuncId} {fs cs : List AV} [Enters P f] (K : Option Code → List Res → Prop) {st0 : LoopState} {pend0 : Option Code} {fn0 : FuncId} {nt0 : Nat} {t0 : Fr} {ps0 : Array Tmp} {asn0 body0 : Code} {r0 i : Nat}
    (hl0 : h[i]? = some (.loop l0 st0 pend0 fn0 nt0 t0 ps0 asn0 body0 r0)) (hg : ev t g = some (.fn (.func f) fs cs))
    (hcall : ∀ fn l (lp : LP), (lp = fun st pend => .loop l st pend fn nt t ps asn body r0) → ACall P f (fs ++ [yv l] ++ cs) (lp .ready none :: h) (fun _ h' => ∃ pend st h'', h'.Perm (lp st pend :: h'') ∧ st ≠ .busy ∧ K pend h''))
    (hn : ∀ h'', K none h'' → Q .normal ⟨t, h'', ds⟩) (hj : ∀ h'' c, K (some c) h'' → aw P (some l0) nt c Q ⟨t, h'', ds⟩) : aw P (some l0) nt (.rangeFunc g ps asn body) Q ⟨t, h, ds⟩ :=
  aw_rangeFunc_in (K := fun _ _ pend h'' => K pend h'') hl0 hg (fun fn l => hcall fn l _ rfl) (fun _ _ h'' hk => hn h'' hk) (fun _ _ h'' c hk => hj h'' c hk)
theorem fcall_yl {P : Program} {l : Nat} {pend : Option Code} {fn : FuncId} {nt : Nat} {t : Fr} {ps : List Tmp} {asn body : Code} {dd : Nat} {args : List AV} {h : List Res} {R : AV → List Res → Prop} {lp : LP} (hlp : lp = fun st pend => .loop l st pend fn nt t ps.toArray asn body dd)
    (hps : Nat.beq ps.length args.length = true) (hpn : (ps.all fun p => Nat.blt p nt) = true)
    (hb : aw P (some l) nt asn (thn (fun s => ∃ t', Ent nt s ⟨t', lp .ready pend :: h, []⟩ ∧ aw P (some l) nt body (RoundL lp pend R) ⟨t', lp .busy pend :: h, []⟩) (fun _ _ => False))
      ⟨zipFr ps args t, lp .ready pend :: h, []⟩) : FCall P (yv l) args (lp .ready pend :: h) R := by
  subst hlp
  exact fcall_yield hps hpn hb
/-- A round's end. -/
theorem round_n {lp : LP} {pend : Option Code} {t2 : Fr} {R : AV → List Res → Prop} {h h1 : List Res} {ds : List Nat} (p : h.Perm (lp .busy pend :: h1)) (hR : R (.v (.bool true)) (lp .ready none :: h1)) : RoundL lp pend R .normal ⟨t2, h, ds⟩ := ⟨h1, p, hR⟩
theorem round_r {lp : LP} {pend : Option Code} {t2 : Fr} {R : AV → List Res → Prop} {h h1 : List Res} {ds : List Nat} (p : h.Perm (lp .busy pend :: h1)) (hR : R (.v (.bool false)) (lp .done (some .ret) :: h1)) : RoundL lp pend R .ret ⟨t2, h, ds⟩ := ⟨h1, p, hR⟩
theorem round_e {lp : LP} {pend : Option Code} {t2 : Fr} {R : AV → List Res → Prop} {h h1 : List Res} {ds : List Nat} {id : Nat} (p : h.Perm (lp .busy pend :: h1)) (hR : R (.v (.bool false)) (lp .done (some (.exit id)) :: h1)) : RoundL lp pend R (.exit id) ⟨t2, h, ds⟩ := ⟨h1, p, hR⟩
/-- A return where functions were ranged over. -/
theorem retqd {P : Program} {t : Fr} {h h1 : List Res} {ds : List Nat} {rs : List ResultVar} {R : AV → List Res → Prop} {aS : List AV} {av' : AV} {h' : List Res} (p : h.Perm (ds.map .defs ++ h1)) (hr : RVs P t h1 rs aS) (hv : VEnt h1 (packAV aS) h' av') (hR : R av' h') : RetQ P rs R .ret ⟨t, h, ds⟩ :=
  ⟨.inl rfl, h1, p, aS, av', h', hr, hv, hR⟩
theorem retqd_n {P : Program} {t : Fr} {h h1 : List Res} {ds : List Nat} {rs : List ResultVar} {R : AV → List Res → Prop} {aS : List AV} {av' : AV} {h' : List Res} (p : h.Perm (ds.map .defs ++ h1)) (hr : RVs P t h1 rs aS) (hv : VEnt h1 (packAV aS) h' av') (hR : R av' h') : RetQ P rs R .normal ⟨t, h, ds⟩ :=
  ⟨.inr rfl, h1, p, aS, av', h', hr, hv, hR⟩
/-- What is left behind, in another order. -/
theorem CPost.permR {X : Nat → Prop} {w : World} {h : List Res} {R : AV → List Res → Prop} {e : Ending} {w' : World} (p : CPost X w h (fun r h' => ∃ h'', h'.Perm h'' ∧ R r h'') e w') : CPost X w h R e w' := by
  obtain ⟨u, av, h', e1, ⟨h'', q, hR⟩, hrel, hh', hk⟩ := p
  exact ⟨u, av, h'', e1, hR, hrel.keep (Nat.le_refl _) (fun b hb hl => ⟨rfl, by rw [← OO_perm q]; exact hb⟩), hh'.perm q, hk.perm_right q⟩
theorem FCall.permR {P : Program} {fv : AV} {args : List AV} {h : List Res} {R : AV → List Res → Prop} (hc : FCall P fv args h (fun r h' => ∃ h'', h'.Perm h'' ∧ R r h'')) : FCall P fv args h R :=
  fun X w v vs hh hv ha => (hc X w v vs hh hv ha).mono fun _ _ p => p.permR
theorem ACall.permR {P : Program} {f : FuncId} {args : List AV} {h : List Res} {R : AV → List Res → Prop} (hc : ACall P f args h (fun r h' => ∃ h'', h'.Perm h'' ∧ R r h'')) : ACall P f args h R :=
  fun X w vs hh ha => (hc X w vs hh ha).mono fun _ _ p => p.permR
/-- A quiet call beside resources. -/
theorem FCall.qt {P : Program} {fv : AV} {args : List AV} {G h h2 : List Res} {r0 : AV} (hc : FCall P fv args G (fun r h' => h' = G ∧ r = r0)) (p : h.Perm (G ++ h2)) : FCall P fv args h (fun r h' => h' = h ∧ r = r0) :=
  FCall.quiet (R := fun r => r = r0) p hc
/-- A call that changes some of the resources. -/
theorem FCall.fr {P : Program} {fv : AV} {args : List AV} {G h h2 : List Res} {R : AV → List Res → Prop} (hc : FCall P fv args G R) (p : h.Perm (G ++ h2)) : FCall P fv args h (fun r h' => ∃ h'', h' = h'' ++ h2 ∧ R r h'') :=
  ((hc.frame h2).perm p).mono fun _ _ ⟨h1, e, q⟩ => ⟨h1, e, q⟩
/-- What stands at a place of a list of resources, put to its head. -/
theorem perm_to {α : Type} : ∀ (l1 : List α) (x : α) (l2 : List α), (l1 ++ x :: l2).Perm (x :: (l1 ++ l2)) := fun l1 x l2 => List.perm_middle
theorem pt1 {α : Type} (a0 x : α) (l : List α) : (a0 :: x :: l).Perm (x :: a0 :: l) := perm_to [a0] x l
theorem pt2 {α : Type} (a0 a1 x : α) (l : List α) : (a0 :: a1 :: x :: l).Perm (x :: a0 :: a1 :: l) := perm_to [a0, a1] x l
theorem pt3 {α : Type} (a0 a1 a2 x : α) (l : List α) : (a0 :: a1 :: a2 :: x :: l).Perm (x :: a0 :: a1 :: a2 :: l) := perm_to [a0, a1, a2] x l
theorem pt4 {α : Type} (a0 a1 a2 a3 x : α) (l : List α) : (a0 :: a1 :: a2 :: a3 :: x :: l).Perm (x :: a0 :: a1 :: a2 :: a3 :: l) := perm_to [a0, a1, a2, a3] x l
theorem pt5 {α : Type} (a0 a1 a2 a3 a4 x : α) (l : List α) : (a0 :: a1 :: a2 :: a3 :: a4 :: x :: l).Perm (x :: a0 :: a1 :: a2 :: a3 :: a4 :: l) := perm_to [a0, a1, a2, a3, a4] x l
theorem pt6 {α : Type} (a0 a1 a2 a3 a4 a5 x : α) (l : List α) : (a0 :: a1 :: a2 :: a3 :: a4 :: a5 :: x :: l).Perm (x :: a0 :: a1 :: a2 :: a3 :: a4 :: a5 :: l) := perm_to [a0, a1, a2, a3, a4, a5] x l
theorem pt7 {α : Type} (a0 a1 a2 a3 a4 a5 a6 x : α) (l : List α) : (a0 :: a1 :: a2 :: a3 :: a4 :: a5 :: a6 :: x :: l).Perm (x :: a0 :: a1 :: a2 :: a3 :: a4 :: a5 :: a6 :: l) := perm_to [a0, a1, a2, a3, a4, a5, a6] x l
theorem pt8 {α : Type} (a0 a1 a2 a3 a4 a5 a6 a7 x : α) (l : List α) : (a0 :: a1 :: a2 :: a3 :: a4 :: a5 :: a6 :: a7 :: x :: l).Perm (x :: a0 :: a1 :: a2 :: a3 :: a4 :: a5 :: a6 :: a7 :: l) := perm_to [a0, a1, a2, a3, a4, a5, a6, a7] x l
theorem pt9 {α : Type} (a0 a1 a2 a3 a4 a5 a6 a7 a8 x : α) (l : List α) : (a0 :: a1 :: a2 :: a3 :: a4 :: a5 :: a6 :: a7 :: a8 :: x :: l).Perm (x :: a0 :: a1 :: a2 :: a3 :: a4 :: a5 :: a6 :: a7 :: a8 :: l) := perm_to [a0, a1, a2, a3, a4, a5, a6, a7, a8] x l
theorem pt10 {α : Type} (a0 a1 a2 a3 a4 a5 a6 a7 a8 a9 x : α) (l : List α) : (a0 :: a1 :: a2 :: a3 :: a4 :: a5 :: a6 :: a7 :: a8 :: a9 :: x :: l).Perm (x :: a0 :: a1 :: a2 :: a3 :: a4 :: a5 :: a6 :: a7 :: a8 :: a9 :: l) := perm_to [a0, a1, a2, a3, a4, a5, a6, a7, a8, a9] x l
theorem pt11 {α : Type} (a0 a1 a2 a3 a4 a5 a6 a7 a8 a9 a10 x : α) (l : List α) : (a0 :: a1 :: a2 :: a3 :: a4 :: a5 :: a6 :: a7 :: a8 :: a9 :: a10 :: x :: l).Perm (x :: a0 :: a1 :: a2 :: a3 :: a4 :: a5 :: a6 :: a7 :: a8 :: a9 :: a10 :: l) := perm_to [a0, a1, a2, a3, a4, a5, a6, a7, a8, a9, a10] x l
theorem pt12 {α : Type} (a0 a1 a2 a3 a4 a5 a6 a7 a8 a9 a10 a11 x : α) (l : List α) : (a0 :: a1 :: a2 :: a3 :: a4 :: a5 :: a6 :: a7 :: a8 :: a9 :: a10 :: a11 :: x :: l).Perm (x :: a0 :: a1 :: a2 :: a3 :: a4 :: a5 :: a6 :: a7 :: a8 :: a9 :: a10 :: a11 :: l) := perm_to [a0, a1, a2, a3, a4, a5, a6, a7, a8, a9, a10, a11] x l
theorem perm_swap {α : Type} (l1 l2 : List α) : (l1 ++ l2).Perm (l2 ++ l1) := List.perm_append_comm
theorem qr_max3 {P : Program} {h : List Res} {f : Operand → Option AV} {dst : Option Tmp} {ty : TypeId} {pos : String} {after : Array Edge} {guard : Option (Nat × Bool)} {x y z : Operand} {tys : Array TypeId} {k k' k'' : IntKind} {a b c : Int} (hx : f x = some (.v (.int k a))) (hy : f y = some (.v (.int k' b))) (hz : f z = some (.v (.int k'' c))) :
    QR P h f ⟨dst, .call ⟨.builtin .max, [x, y, z].toArray, tys⟩, ty, pos, after, guard⟩ (.v (.int k (max (max a b) c))) := fun X ρ w he => by
  refine ⟨_, ?_, .v _⟩
  have e : ∀ (w : World) (ts : Array TypeId) (t : TypeId), (Builtin.max_ ts t #[.int k a, .int k' b, .int k'' c]).run P w = .ok (.int k (max (max a b) c)) w := by
    intro w ts t
    have e0 : (Builtin.max_ ts t #[.int k a, .int k' b, .int k'' c]).run P w = .ok (.int k (if c > (if b > a then b else a) then c else (if b > a then b else a))) w := by simp [Builtin.max_, Builtin.max2]
    have e1 : (if c > (if b > a then b else a) then c else (if b > a then b else a)) = max (max a b) c := by
      have e2 : (if b > a then b else a) = max a b := by simp only [Int.max_def]; repeat' split
                                                         all_goals omega
      rw [e2]
      simp only [Int.max_def]; repeat' split
      all_goals omega
    rw [e0, e1]
  simp only [execOp, resolve, List.map_toArray, List.map_cons, List.map_nil, (he.rel x _ hx).v_eq, (he.rel y _ hy).v_eq, (he.rel z _ hz).v_eq, Sem.run_bind, Sem.run_pure, Result.andThen_ok, invoke, builtin, e]
/-- Ways that meet: from here on one state. -/
theorem aw_cut {P : Program} {ro : Option Nat} {nt : Nat} {x y : Code} {Q : Exit → St → Prop} {s : St} (m : St) (h : aw P ro nt x (thn (fun s' => Ent nt s' m) Q) s) (k : aw P ro nt y Q m) : aw P ro nt (.seq x y) Q s :=
  aw_seq (aw_mono (fun e s' q => by
    cases e with
    | normal => exact aw_ent q k
    | _ => exact q) h)
theorem aw_cutE {ι : Type} {P : Program} {ro : Option Nat} {nt : Nat} {x y : Code} {Q : Exit → St → Prop} {s : St} (p : ι → Prop) (m : ι → St) (h : aw P ro nt x (thn (fun s' => ∃ i, p i ∧ Ent nt s' (m i)) Q) s) (k : ∀ i, p i → aw P ro nt y Q (m i)) : aw P ro nt (.seq x y) Q s :=
  aw_seq (aw_mono (fun e s' q => by
    cases e with
    | normal => obtain ⟨i, hi, he⟩ := q; exact aw_ent he (k i hi)
    | _ => exact q) h)
theorem FCall.frL {P : Program} {fv : AV} {args : List AV} {G : List Res} {R : AV → List Res → Prop} (h2 : List Res) (hc : FCall P fv args G R) : FCall P fv args (h2 ++ G) (fun r h' => ∃ h'', h' = h2 ++ h'' ∧ R r h'') := by
  refine FCall.permR ((FCall.fr hc (h2 := h2) List.perm_append_comm).mono ?_)
  rintro r _ ⟨h'', rfl, q⟩
  exact ⟨h2 ++ h'', List.perm_append_comm, h'', rfl, q⟩
theorem FCall.fr1 {P : Program} {fv : AV} {args : List AV} {G : List Res} {R : AV → List Res → Prop} {a0 : Res} (hc : FCall P fv args G R) : FCall P fv args (a0 :: G) (fun r h' => ∃ h'', h' = a0 :: h'' ∧ R r h'') := hc.frL [a0]
theorem FCall.fr2 {P : Program} {fv : AV} {args : List AV} {G : List Res} {R : AV → List Res → Prop} {a0 a1 : Res} (hc : FCall P fv args G R) : FCall P fv args (a0 :: a1 :: G) (fun r h' => ∃ h'', h' = a0 :: a1 :: h'' ∧ R r h'') := hc.frL [a0, a1]
theorem FCall.fr3 {P : Program} {fv : AV} {args : List AV} {G : List Res} {R : AV → List Res → Prop} {a0 a1 a2 : Res} (hc : FCall P fv args G R) : FCall P fv args (a0 :: a1 :: a2 :: G) (fun r h' => ∃ h'', h' = a0 :: a1 :: a2 :: h'' ∧ R r h'') := hc.frL [a0, a1, a2]
theorem FCall.fr4 {P : Program} {fv : AV} {args : List AV} {G : List Res} {R : AV → List Res → Prop} {a0 a1 a2 a3 : Res} (hc : FCall P fv args G R) : FCall P fv args (a0 :: a1 :: a2 :: a3 :: G) (fun r h' => ∃ h'', h' = a0 :: a1 :: a2 :: a3 :: h'' ∧ R r h'') := hc.frL [a0, a1, a2, a3]
theorem FCall.fr5 {P : Program} {fv : AV} {args : List AV} {G : List Res} {R : AV → List Res → Prop} {a0 a1 a2 a3 a4 : Res} (hc : FCall P fv args G R) : FCall P fv args (a0 :: a1 :: a2 :: a3 :: a4 :: G) (fun r h' => ∃ h'', h' = a0 :: a1 :: a2 :: a3 :: a4 :: h'' ∧ R r h'') := hc.frL [a0, a1, a2, a3, a4]
theorem FCall.fr6 {P : Program} {fv : AV} {args : List AV} {G : List Res} {R : AV → List Res → Prop} {a0 a1 a2 a3 a4 a5 : Res} (hc : FCall P fv args G R) : FCall P fv args (a0 :: a1 :: a2 :: a3 :: a4 :: a5 :: G) (fun r h' => ∃ h'', h' = a0 :: a1 :: a2 :: a3 :: a4 :: a5 :: h'' ∧ R r h'') := hc.frL [a0, a1, a2, a3, a4, a5]
theorem FCall.fr7 {P : Program} {fv : AV} {args : List AV} {G : List Res} {R : AV → List Res → Prop} {a0 a1 a2 a3 a4 a5 a6 : Res} (hc : FCall P fv args G R) : FCall P fv args (a0 :: a1 :: a2 :: a3 :: a4 :: a5 :: a6 :: G) (fun r h' => ∃ h'', h' = a0 :: a1 :: a2 :: a3 :: a4 :: a5 :: a6 :: h'' ∧ R r h'') := hc.frL [a0, a1, a2, a3, a4, a5, a6]
theorem FCall.fr8 {P : Program} {fv : AV} {args : List AV} {G : List Res} {R : AV → List Res → Prop} {a0 a1 a2 a3 a4 a5 a6 a7 : Res} (hc : FCall P fv args G R) : FCall P fv args (a0 :: a1 :: a2 :: a3 :: a4 :: a5 :: a6 :: a7 :: G) (fun r h' => ∃ h'', h' = a0 :: a1 :: a2 :: a3 :: a4 :: a5 :: a6 :: a7 :: h'' ∧ R r h'') := hc.frL [a0, a1, a2, a3, a4, a5, a6, a7]
/-! Maps that are sets. -/
def metM {K : Type} (l : List K) : List (K × AV) := l.map fun x => (x, .v (.bool true))
theorem lookM_met {K : Type} [DecidableEq K] (k : K) : ∀ l : List K, lookM k (metM l) = if k ∈ l then some (.v (.bool true)) else none
  | [] => rfl
  | x :: l => by
    have ih := lookM_met k l
    simp only [metM, List.map_cons, lookM, List.mem_cons] at ih ⊢
    by_cases h : x = k
    · simp [h]
    · rw [if_neg h, ih]; simp [Ne.symm h]
def memB {K : Type} [DecidableEq K] (k : K) (l : List K) : Bool := decide (k ∈ l)
theorem memB_t {K : Type} [DecidableEq K] {k : K} {l : List K} : memB k l = true ↔ k ∈ l := by simp [memB]
theorem memB_f {K : Type} [DecidableEq K] {k : K} {l : List K} : memB k l = false ↔ k ∉ l := by simp [memB]
theorem lookM_metD {K : Type} [DecidableEq K] (k : K) (l : List K) : (lookM k (metM l)).getD (.v (.bool false)) = .v (.bool (memB k l)) := by
  rw [lookM_met]; by_cases h : k ∈ l <;> simp [h, memB]
theorem updM_met {K : Type} [DecidableEq K] (k : K) : ∀ l : List K, k ∉ l → updM k (.v (.bool true)) (metM l) = metM (l ++ [k])
  | [], _ => rfl
  | x :: l, h => by
    have ih := updM_met k l (fun q => h (List.mem_cons_of_mem _ q))
    have hx : x ≠ k := fun q => h (q ▸ List.mem_cons_self)
    simp only [metM, List.map_cons, updM, List.cons_append, List.map_append] at ih ⊢
    rw [if_neg hx, ih]
end Go.Ab
/- The abstract logic, part 21: a region that draws its order, and among whose operations some make memory of their own (calls, allocations, maps). Conditions: the program draws freely ('mixedOrders'). -/
set_option linter.unusedVariables false
set_option linter.unusedSimpArgs false
namespace Go.Ab
open Go
/-- A slice's value. -/
structure SV where
  a : Option Addr
  n : Nat
  c : Nat
def SV.v (s : SV) : Value := .slice s.a s.n s.c
/-- What a maker makes depends on slices, and on blocks. -/
structure MX where
  vs : List SV
  ns : List Nat
abbrev MR := MX → AV × List Res
/-- A maker: what it uses up, and what it makes. -/
abbrev CM := List Res × MR
def MFact (P : Program) (ro : Option Nat) (nt : Nat) (h : List Res) (dsl : List Nat) (l : List Oper) (sd : List Tmp) (t0 : Fr) (o : Oper) (m : CM) (e : Fr) : Prop :=
  ∃ d, o.dst = some d ∧ Nat.blt d nt = true ∧ o.guard = none ∧
    ∀ X a w K Q, a.tmps.size = nt → a.defers = dsl.map markOf → Env X (m.1 ++ h) (evS sd (pdst l o) e t0) a.eval w → (∀ x v w', Rel w' (OO ((m.2 x).2 ++ h) X) (m.2 x).1 v → HRel X w' ((m.2 x).2 ++ h) → Keep (owns (m.1 ++ h)) w (owns ((m.2 x).2 ++ h)) w' → K (a.put o.dst v) w') → o.wpIn (FW ro) 0 P a w K Q
def dsoupM (P : Program) (ro : Option Nat) (nt : Nat) (h : List Res) (dsl : List Nat) (l : List Oper) (sd : List Tmp) (t0 : Fr) : List Oper → Fr → (Fr → List (Option CM) → Prop) → Prop
  | [], e, K => K e []
  | o :: rest, e, K => (∃ d av, o.dst = some d ∧ QFact P ro nt h l sd t0 o av e ∧ dsoupM P ro nt h dsl l sd t0 rest ((d, av) :: e) (fun e ms => K e (none :: ms))) ∨
      (∃ m, MFact P ro nt h dsl l sd t0 o m e ∧ dsoupM P ro nt h dsl l sd t0 rest e (fun e ms => K e (some m :: ms)))
def dallocM : List Oper → List (Option CM) → Fr → List Res → (Fr → List Res → Prop) → Prop
  | o :: os, some m :: ms, e, h, K => ∀ d x, o.dst = some d → dallocM os ms ((d, (m.2 x).1) :: e) ((m.2 x).2 ++ h) K
  | _ :: os, none :: ms, e, h, K => dallocM os ms e h K
  | _, _, e, h, K => K e h
/-- The frame that a choice of what each operation is leads to. -/
def entsM : List Oper → List (Option AV) → Fr → Fr
  | o :: os, some a :: aS, e => entsM os aS (match o.dst with
    | some d => (d, a) :: e
    | none => e)
  | _ :: os, none :: aS, e => entsM os aS e
  | _, _, e => e
def FactsM (P : Program) (ro : Option Nat) (nt : Nat) (h : List Res) (dsl : List Nat) (l : List Oper) (sd : List Tmp) (t0 : Fr) : List Oper → List (Option AV) → List (Option CM) → Fr → Prop
  | [], [], [], _ => True
  | o :: os, some a :: aS, none :: ms, e => ∃ d, o.dst = some d ∧ QFact P ro nt h l sd t0 o a e ∧ FactsM P ro nt h dsl l sd t0 os aS ms ((d, a) :: e)
  | o :: os, none :: aS, some m :: ms, e => MFact P ro nt h dsl l sd t0 o m e ∧ FactsM P ro nt h dsl l sd t0 os aS ms e
  | _, _, _, _ => False
theorem factsM_of {P : Program} {ro : Option Nat} {nt : Nat} {h : List Res} {dsl : List Nat} {l : List Oper} {sd : List Tmp} {t0 : Fr} : ∀ {os : List Oper} {e : Fr} {K : Fr → List (Option CM) → Prop}, dsoupM P ro nt h dsl l sd t0 os e K →
    ∃ aS ms, FactsM P ro nt h dsl l sd t0 os aS ms e ∧ K (entsM os aS e) ms
  | [], e, K, hk => ⟨[], [], trivial, hk⟩
  | o :: os, e, K, .inl ⟨d, av, h1, h2, h3⟩ => let ⟨aS, ms, a, b⟩ := factsM_of h3; ⟨some av :: aS, none :: ms, ⟨d, h1, h2, a⟩, by simpa [entsM, h1] using b⟩
  | o :: os, e, K, .inr ⟨m, h1, h2⟩ => let ⟨aS, ms, a, b⟩ := factsM_of h2; ⟨none :: aS, some m :: ms, ⟨h1, a⟩, by simpa [entsM] using b⟩
theorem FactsM.length {P : Program} {ro : Option Nat} {nt : Nat} {h : List Res} {dsl : List Nat} {l : List Oper} {sd : List Tmp} {t0 : Fr} : ∀ {os : List Oper} {aS : List (Option AV)} {ms : List (Option CM)} {e : Fr}, FactsM P ro nt h dsl l sd t0 os aS ms e → aS.length = os.length ∧ ms.length = os.length
  | [], [], [], _, _ => ⟨rfl, rfl⟩
  | o :: os, some a :: aS, none :: ms, e, ⟨d, _, _, hh⟩ => by have := FactsM.length hh; simp [this.1, this.2]
  | o :: os, none :: aS, some m :: ms, e, ⟨_, hh⟩ => by have := FactsM.length hh; simp [this.1, this.2]
  | [], _ :: _, _, _, hh => by simp [FactsM] at hh
  | [], [], _ :: _, _, hh => by simp [FactsM] at hh
  | _ :: _, [], _, _, hh => by simp [FactsM] at hh
  | _ :: _, some _ :: _, [], _, hh => by simp [FactsM] at hh
  | _ :: _, none :: _, [], _, hh => by simp [FactsM] at hh
  | _ :: _, some _ :: _, some _ :: _, _, hh => by simp [FactsM] at hh
  | _ :: _, none :: _, none :: _, _, hh => by simp [FactsM] at hh
theorem FactsM.at {P : Program} {ro : Option Nat} {nt : Nat} {h : List Res} {dsl : List Nat} {l : List Oper} {sd : List Tmp} {t0 : Fr} : ∀ {os : List Oper} {aS : List (Option AV)} {ms : List (Option CM)} {e : Fr}, FactsM P ro nt h dsl l sd t0 os aS ms e → ∀ (i : Nat) (o : Oper), os[i]? = some o →
    (∃ a, aS[i]? = some (some a) ∧ ms[i]? = some none ∧ QFact P ro nt h l sd t0 o a (entsM (os.take i) (aS.take i) e)) ∨ (∃ m, aS[i]? = some none ∧ ms[i]? = some (some m) ∧ MFact P ro nt h dsl l sd t0 o m (entsM (os.take i) (aS.take i) e))
  | o :: os, some a :: aS, none :: ms, e, ⟨d, h1, h2, h3⟩, 0, o', ho => by
    simp only [List.getElem?_cons_zero, Option.some.injEq] at ho
    subst ho
    exact .inl ⟨a, rfl, rfl, h2⟩
  | o :: os, none :: aS, some m :: ms, e, ⟨h1, h2⟩, 0, o', ho => by
    simp only [List.getElem?_cons_zero, Option.some.injEq] at ho
    subst ho
    exact .inr ⟨m, rfl, rfl, h1⟩
  | o :: os, some a :: aS, none :: ms, e, ⟨d, h1, h2, h3⟩, i + 1, o', ho => by
    have := FactsM.at h3 i o' (by simpa using ho)
    simpa [entsM, h1] using this
  | o :: os, none :: aS, some m :: ms, e, ⟨h1, h2⟩, i + 1, o', ho => by
    have := FactsM.at h2 i o' (by simpa using ho)
    simpa [entsM] using this
  | [], _, _, _, _, _, _, ho => by simp at ho
  | _ :: _, [], _, _, hh, _, _, _ => by simp [FactsM] at hh
  | _ :: _, some _ :: _, [], _, hh, _, _, _ => by simp [FactsM] at hh
  | _ :: _, none :: _, [], _, hh, _, _, _ => by simp [FactsM] at hh
  | _ :: _, some _ :: _, some _ :: _, _, hh, _, _, _ => by simp [FactsM] at hh
  | _ :: _, none :: _, none :: _, _, hh, _, _, _ => by simp [FactsM] at hh
theorem lk_entsM : ∀ {os : List Oper} {aS : List (Option AV)} {e : Fr} {d : Nat} {av : AV}, lk (entsM os aS e) d = some av → (∃ (i : Nat) (o : Oper), os[i]? = some o ∧ aS[i]? = some (some av) ∧ o.dst = some d) ∨ lk e d = some av
  | [], aS, e, d, av, hh => by cases aS <;> exact .inr hh
  | o :: os, [], e, d, av, hh => .inr hh
  | o :: os, none :: aS, e, d, av, hh => by
    rcases lk_entsM (os := os) (aS := aS) hh with ⟨i, o', h1, h2, h3⟩ | h1
    · exact .inl ⟨i + 1, o', by simpa using h1, by simpa using h2, h3⟩
    · exact .inr h1
  | o :: os, some a :: aS, e, d, av, hh => by
    rcases lk_entsM (os := os) (aS := aS) hh with ⟨i, o', h1, h2, h3⟩ | h1
    · exact .inl ⟨i + 1, o', by simpa using h1, by simpa using h2, h3⟩
    · split at h1
      · rename_i d' hd'
        simp only [lk] at h1
        split at h1
        · rename_i hb
          have := Nat.eq_of_beq_eq_true hb
          subst this
          cases h1
          exact .inl ⟨0, o, rfl, rfl, hd'⟩
        · exact .inr h1
      · exact .inr h1
theorem lk_entsM_some : ∀ {os : List Oper} {aS : List (Option AV)} {e : Fr} {i : Nat} {o : Oper} {a : AV} {d : Nat}, os[i]? = some o → aS[i]? = some (some a) → o.dst = some d → lk (entsM os aS e) d ≠ none := by
  have mono : ∀ (os : List Oper) (aS : List (Option AV)) (e : Fr) (d : Nat), lk e d ≠ none → lk (entsM os aS e) d ≠ none := by
    intro os
    induction os with
    | nil => intro aS e d h; cases aS <;> exact h
    | cons o os ih =>
      intro aS e d h
      cases aS with
      | nil => exact h
      | cons a aS =>
        cases a with
        | none => exact ih aS _ d h
        | some a =>
          refine ih aS _ d ?_
          split
          · simp only [lk]; split
            · simp
            · exact h
          · exact h
  intro os
  induction os with
  | nil => intro aS e i o a d ho; simp at ho
  | cons o' os ih =>
    intro aS e i o a d ho ha hd
    cases aS with
    | nil => simp at ha
    | cons x aS =>
      cases i with
      | zero =>
        simp only [List.getElem?_cons_zero, Option.some.injEq] at ho ha
        subst ho ha
        refine mono os aS _ d ?_
        simp [hd, lk]
      | succ i =>
        have := ih (aS := aS) (e := match x with
          | some a => (match o'.dst with
            | some d => (d, a) :: e
            | none => e)
          | none => e) (by simpa using ho) (by simpa using ha) hd
        cases x <;> exact this
/-- Resources more, over blocks that nobody may look at. -/
theorem HRel.addres {X : Nat → Prop} {w : World} {h rs : List Res} (hh : HRel (Sub X (owns rs)) w h) (hn : (owns rs).Nodup) (hX : ∀ b ∈ owns rs, ¬ X b) (hr : ∀ r ∈ rs, r.holds w (OO h (Sub X (owns rs)))) : HRel X w (rs ++ h) := by
  have hOO : OO (rs ++ h) X = OO h (Sub X (owns rs)) := by
    funext b; simp only [OO, Sub, owns_append, List.mem_append, eq_iff_iff]
    exact ⟨fun q => by rcases q with (q | q) | q <;> simp [q], fun q => by rcases q with q | q | q <;> simp [q]⟩
  refine ⟨?_, fun b hb => ?_, fun b hb => hh.xlt b (.inl hb), fun r hr' => ?_⟩
  · rw [owns_append, List.nodup_append]
    exact ⟨hn, hh.nodup, fun x hx y hy e => (hh.lt y hy).2 (.inr (e ▸ hx))⟩
  · rw [owns_append, List.mem_append] at hb
    rcases hb with hb | hb
    · exact ⟨hh.xlt b (.inr hb), hX b hb⟩
    · exact ⟨(hh.lt b hb).1, fun q => (hh.lt b hb).2 (.inl q)⟩
  · rw [hOO]
    rcases List.mem_append.1 hr' with q | q
    · exact hr r q
    · exact hh.holds r q
abbrev XB (X : Nat → Prop) (B : Nat → List Nat) : Nat → Prop := fun b => X b ∨ ∃ i : Nat, b ∈ B i
structure InvM (P : Program) (X : Nat → Prop) (nt : Nat) (h : List Res) (CO : List Nat) (l : List Oper) (n : Nat) (t : Fr) (dsl : List Nat) (aS : List (Option AV)) (ms : List (Option CM)) (w0 : World) (B : Nat → List Nat) (listed : Array Bool) (a : Act) (w : World) : Prop where
  size : listed.size = l.length
  closed : ∀ i, listed.getD i false = true → ∀ j ∈ predsOf l i, listed.getD j false = true
  tail : ∀ i, n ≤ i → listed.getD i false = false
  tsz : a.tmps.size = nt
  defs : a.defers = dsl.map markOf
  heap : HRel (XB X B) w h
  inj : ∀ (i j : Nat) b, b ∈ B i → b ∈ B j → i = j
  blk : ∀ (i : Nat) b, b ∈ B i → i < n ∧ ¬ X b ∧ (w0.heap.size ≤ b ∨ b ∈ CO)
  pend : ∀ i m, i < n → ms[i]? = some (some m) → listed.getD i false = false → owns m.1 = B i ∧ (B i).Nodup ∧ ∀ r ∈ m.1, r.holds w (OO h (XB X B))
  mks : ∀ i o d m, i < n → l[i]? = some o → o.dst = some d → ms[i]? = some (some m) → listed.getD i false = true → ∃ x v, a.tmps[d]? = some v ∧ owns (m.2 x).2 = B i ∧ (B i).Nodup ∧ Rel w (OO h (XB X B)) (m.2 x).1 v ∧ ∀ r ∈ (m.2 x).2, r.holds w (OO h (XB X B))
  nomk : ∀ i, ms[i]? = some none → B i = []
  vals : ∀ i o d av, i < n → l[i]? = some o → o.dst = some d → aS[i]? = some (some av) → listed.getD i false = true → ∃ v, a.tmps[d]? = some v ∧ Rel w (OO h (XB X B)) av v
  base : ∀ d av, (∀ j, j < n → dstOf l j ≠ some d) → lk t d = some av → ∃ v, a.tmps[d]? = some v ∧ Rel w (OO h (XB X B)) av v
  keep : Keep (owns h ++ CO) w0 (owns h ++ CO) w
section
variable {P : Program} {X : Nat → Prop} {nt n : Nat} {h : List Res} {CO : List Nat} {l : List Oper} {t : Fr} {dsl : List Nat} {aS : List (Option AV)} {ms : List (Option CM)} {w0 : World} {B : Nat → List Nat} {listed : Array Bool} {a : Act} {w : World}
theorem InvM.look (hc : SoupC l n) (hi : InvM P X nt h CO l n t dsl aS ms w0 B listed a w) {i : Nat} {o : Oper} (ho : l[i]? = some o) (hin : i < n) (hp : ∀ j ∈ predsOf l i, listed.getD j false = true) {d : Nat} {av : AV}
    (hl : lkS (sdst l n) (pdst l o) (entsM ((l.take n).take i) (aS.take i) []) t d = some av) : ∃ v, a.tmps[d]? = some v ∧ Rel w (OO h (XB X B)) av v := by
  unfold lkS at hl
  split at hl
  · rename_i hpd
    obtain ⟨x, hx, e⟩ := List.any_eq_true.1 hpd
    have := Nat.eq_of_beq_eq_true e
    subst this
    simp only [pdst, List.mem_filterMap] at hx
    obtain ⟨j', hj', hd'⟩ := hx
    have hj'p : j' ∈ predsOf l i := by simp only [predsOf, ho]; exact hj'
    rcases lk_entsM hl with ⟨j, oj, h1, h2, h4⟩ | h1
    · have hji : j < i := by
        have := (List.getElem?_eq_some_iff.1 h2).1
        simp at this; omega
      have hoj : l[j]? = some oj := by
        rw [List.take_take, Nat.min_eq_left (by omega)] at h1
        rw [List.getElem?_take_of_lt hji] at h1; exact h1
      have hjj : j = j' := by
        obtain ⟨_, g3, _⟩ := hc.one (show j < n by omega) hoj h4
        rcases Nat.decEq j j' with hne | heq
        · exact absurd rfl (g3 j' (by have := hc.back i (by have := hc.le; omega) j' hj'p; omega) (fun h => hne h.symm) d hd')
        · exact heq
      subst hjj
      exact hi.vals j oj d av (by omega) hoj h4 (by rw [List.getElem?_take_of_lt hji] at h2; exact h2) (hp j hj'p)
    · simp [lk] at h1
  · split at hl
    · cases hl
    · rename_i hsd
      refine hi.base d av (fun j hj hd => ?_) hl
      have : d ∈ sdst l n := by
        simp only [sdst, List.mem_filterMap]
        simp only [dstOf] at hd
        cases hlj : l[j]? with
        | none => simp [hlj] at hd
        | some oj =>
          simp only [hlj, Option.bind_some] at hd
          exact ⟨oj, List.mem_of_getElem? (i := j) (by rw [List.getElem?_take_of_lt hj]; exact hlj), hd⟩
      have : (sdst l n).any (Nat.beq d) = true := List.any_eq_true.2 ⟨d, this, by simp⟩
      simp_all
theorem InvM.env (hc : SoupC l n) (hi : InvM P X nt h CO l n t dsl aS ms w0 B listed a w) {i : Nat} {o : Oper} (ho : l[i]? = some o) (hin : i < n) (hp : ∀ j ∈ predsOf l i, listed.getD j false = true) :
    Env (XB X B) h (evS (sdst l n) (pdst l o) (entsM ((l.take n).take i) (aS.take i) []) t) a.eval w := by
  refine ⟨hi.heap, fun x av hx => ?_⟩
  cases x with
  | tmp d =>
    obtain ⟨v, e, r⟩ := hi.look hc ho hin hp hx
    have : a.eval (.tmp d) = v := by simp [Act.eval, Array.getD_eq_getD_getElem?, e]
    rw [this]; exact r
  | const x => cases hx; exact .v x
  | global g => cases hx; exact .v _
  | func f => cases hx; exact .fn _ _ _ _ _ rfl rfl (fun j h => absurd h (Nat.not_lt_zero j)) (fun j h => absurd h (Nat.not_lt_zero j))
theorem InvM.guard (hc : SoupC l n) (hi : InvM P X nt h CO l n t dsl aS ms w0 B listed a w) {i : Nat} {o : Oper} (ho : l[i]? = some o) (hin : i < n) (hp : ∀ j ∈ predsOf l i, listed.getD j false = true) {b : Bool}
    (hg : gdS l (lkS (sdst l n) (pdst l o) (entsM ((l.take n).take i) (aS.take i) []) t) o = some b) : Region.wanted o (yielded l.toArray a.tmps) = b := by
  unfold gdS at hg
  unfold Region.wanted
  split at hg
  · rename_i h0; rw [h0]; simpa using hg
  · rename_i j want h0
    rw [h0]
    simp only
    split at hg
    · rename_i d hd
      have hd' : ((l.toArray)[j]?).bind (·.dst) = some d := by simpa [dstOf] using hd
      split at hg
      · rename_i c hcc
        obtain ⟨v, e, r⟩ := hi.look hc ho hin hp hcc
        rw [r.v_eq] at e
        simp only [Option.some.injEq] at hg
        subst hg
        simp only [yielded, hd', Option.bind_some, e]
        cases c <;> cases want <;> rfl
      · rename_i c hcc
        obtain ⟨v, e, r⟩ := hi.look hc ho hin hp hcc
        rw [r.v_eq] at e
        simp only [Option.some.injEq] at hg
        subst hg
        simp only [yielded, hd', Option.bind_some, e]
        cases want <;> rfl
      · cases hg
    · cases hg
theorem closedM (hc : SoupC l n) (hi : InvM P X nt h CO l n t dsl aS ms w0 B listed a w) {i : Nat} (hp : ∀ j ∈ predsOf l i, listed.getD j false = true) :
    ∀ k, (listed.setIfInBounds i true).getD k false = true → ∀ j ∈ predsOf l k, (listed.setIfInBounds i true).getD j false = true := fun k hk j hj => by
  by_cases hik : i = k
  · subst hik; exact getD_set_true (hp j hj)
  · rw [getD_set_ne false hik] at hk; exact getD_set_true (hi.closed k hk j hj)
/-- An operation that leaves what is known. -/
theorem InvM.stepQ (hc : SoupC l n) (hi : InvM P X nt h CO l n t dsl aS ms w0 B listed a w) {i : Nat} {o : Oper} {d : Nat} {av : AV} {v : Value} {w' : World} (ho : l[i]? = some o) (hin : i < n) (hp : ∀ j ∈ predsOf l i, listed.getD j false = true)
    (hd : o.dst = some d) (hdn : d < nt) (hav : aS[i]? = some (some av)) (hms : ms[i]? = some none) (hr : Rel w' (OO h (XB X B)) av v) (hh : HRel (XB X B) w' h) (hk : Keep (owns h) w (owns h) w') :
    InvM P X nt h CO l n t dsl aS ms w0 B (listed.setIfInBounds i true) (a.put (some d) v) w' := by
  have hne : ∀ j oj dj, j < n → j ≠ i → l[j]? = some oj → oj.dst = some dj → d ≠ dj := fun j oj dj hj hji hoj hdj => by
    obtain ⟨_, g3, _⟩ := hc.one hin ho hd
    exact g3 j hj hji dj (by simp [dstOf, hoj, hdj])
  have hput : ∀ d', d ≠ d' → (a.put (some d) v).tmps[d']? = a.tmps[d']? := fun d' hdd => by simp [Act.put, hdd]
  have hkk := fun b (hb : ¬ OO h (XB X B) b) hl => hk.oo (X := XB X B) b hb hl
  have hkB : ∀ k b, b ∈ B k → w'.heap[b]? = w.heap[b]? := fun k b hb => (hk.same b (hi.heap.xlt b (.inr ⟨k, hb⟩)) (fun hm => (hi.heap.lt b hm).2 (.inr ⟨k, hb⟩))).1
  refine ⟨by simp [hi.size], closedM hc hi hp, fun k hk => ?_, by simp [Act.put, hi.tsz], hi.defs, hh, hi.inj, hi.blk, fun k m hkn hmk hlk => ?_, fun k ok dk m hkn hok hdk hmk hlk => ?_, hi.nomk, fun k ok dk avk hkn hok hdk havk hlk => ?_, fun d' av' hd' hlk => ?_, hi.keep.trans hk.more⟩
  · rw [getD_set_ne false (by omega)]; exact hi.tail k hk
  · have hki : i ≠ k := fun e => by subst e; rw [hms] at hmk; cases hmk
    rw [getD_set_ne false hki] at hlk
    obtain ⟨g1, g2, g3⟩ := hi.pend k m hkn hmk hlk
    exact ⟨g1, g2, fun r hr => Res.holds_keep hk.size hkk (fun b hb => hkB k b (g1 ▸ mem_owns.2 ⟨r, hr, hb⟩)) (g3 r hr)⟩
  · have hki : k ≠ i := fun e => by subst e; rw [hms] at hmk; cases hmk
    rw [getD_set_ne false (fun e => hki e.symm)] at hlk
    obtain ⟨x, v', g1, g2, g3, g5, g4⟩ := hi.mks k ok dk m hkn hok hdk hmk hlk
    exact ⟨x, v', by rw [hput dk (hne k ok dk hkn hki hok hdk)]; exact g1, g2, g3, g5.keep hk.size hkk, fun r hr => Res.holds_keep hk.size hkk (fun b hb => hkB k b (g2 ▸ mem_owns.2 ⟨r, hr, hb⟩)) (g4 r hr)⟩
  · by_cases hki : i = k
    · subst hki
      have : ok = o := Option.some.inj (hok.symm.trans ho)
      subst this
      have : dk = d := Option.some.inj (hdk.symm.trans hd)
      subst this
      have : avk = av := Option.some.inj (Option.some.inj (havk.symm.trans hav))
      subst this
      exact ⟨v, by simp [Act.put, hi.tsz, hdn], hr⟩
    · rw [getD_set_ne false hki] at hlk
      obtain ⟨u, e, r⟩ := hi.vals k ok dk avk hkn hok hdk havk hlk
      exact ⟨u, by rw [hput dk (hne k ok dk hkn (fun h => hki h.symm) hok hdk)]; exact e, r.keep hk.size hkk⟩
  · have hdd : d ≠ d' := fun e => hd' i hin (by simp [dstOf, ho, hd, e])
    obtain ⟨u, e, r⟩ := hi.base d' av' hd' hlk
    exact ⟨u, by rw [hput d' hdd]; exact e, r.keep hk.size hkk⟩
/-- Everybody's blocks but one's. -/
abbrev XBo (X : Nat → Prop) (B : Nat → List Nat) (i : Nat) : Nat → Prop := fun b => X b ∨ ∃ k : Nat, k ≠ i ∧ b ∈ B k
theorem InvM.open (hi : InvM P X nt h CO l n t dsl aS ms w0 B listed a w) {i : Nat} {m : CM} (hin : i < n) (hms : ms[i]? = some (some m)) (hun : listed.getD i false = false) :
    HRel (XBo X B i) w (m.1 ++ h) ∧ OO (m.1 ++ h) (XBo X B i) = OO h (XB X B) := by
  obtain ⟨g1, g2, g3⟩ := hi.pend i m hin hms hun
  have hX : XB X B = Sub (XBo X B i) (owns m.1) := by
    funext b; simp only [XB, XBo, Sub, g1, eq_iff_iff]
    constructor
    · rintro (q | ⟨k, q⟩)
      · exact .inl (.inl q)
      · by_cases hk : k = i
        · subst hk; exact .inr q
        · exact .inl (.inr ⟨k, hk, q⟩)
    · rintro ((q | ⟨k, _, q⟩) | q)
      · exact .inl q
      · exact .inr ⟨k, q⟩
      · exact .inr ⟨i, q⟩
  have hO : OO (m.1 ++ h) (XBo X B i) = OO h (XB X B) := by
    rw [hX]; funext b; simp only [OO, Sub, owns_append, List.mem_append, eq_iff_iff]
    exact ⟨fun q => by rcases q with (q | q) | q <;> simp [q], fun q => by rcases q with q | q | q <;> simp [q]⟩
  refine ⟨HRel.addres (by rw [← hX]; exact hi.heap) (by rw [g1]; exact g2) (fun b hb q => ?_) (fun r hr => by rw [← hX]; exact g3 r hr), hO⟩
  rw [g1] at hb
  rcases q with q | ⟨k, hk, q⟩
  · exact (hi.blk i b hb).2.1 q
  · exact hk (hi.inj k i b q hb)
/-- An operation that has made something. -/
theorem InvM.stepM (hc : SoupC l n) (hi : InvM P X nt h CO l n t dsl aS ms w0 B listed a w) {i : Nat} {o : Oper} {d : Nat} {m : CM} {x : MX} {v : Value} {w' : World} (ho : l[i]? = some o) (hin : i < n) (hp : ∀ j ∈ predsOf l i, listed.getD j false = true)
    (hd : o.dst = some d) (hdn : d < nt) (has : aS[i]? = some none) (hms : ms[i]? = some (some m)) (hun : listed.getD i false = false) (hr : Rel w' (OO ((m.2 x).2 ++ h) (XBo X B i)) (m.2 x).1 v) (hh : HRel (XBo X B i) w' ((m.2 x).2 ++ h)) (hk : Keep (owns (m.1 ++ h)) w (owns ((m.2 x).2 ++ h)) w') :
    InvM P X nt h CO l n t dsl aS ms w0 (fun k => if k = i then owns (m.2 x).2 else B k) (listed.setIfInBounds i true) (a.put (some d) v) w' := by
  obtain ⟨p1, p2, p3⟩ := hi.pend i m hin hms hun
  obtain ⟨C, hC⟩ : ∃ C : Nat → List Nat, C = fun k => if k = i then owns (m.2 x).2 else B k := ⟨_, rfl⟩
  rw [← hC]
  have hCi : C i = owns (m.2 x).2 := by simp [hC]
  have hCk : ∀ k, k ≠ i → C k = B k := fun k hki => by simp [hC, hki]
  have hXC : ∀ b, XB X C b ↔ (XBo X B i b ∨ b ∈ owns (m.2 x).2) := fun b => by
    constructor
    · rintro (hx | ⟨k, hk⟩)
      · exact .inl (.inl hx)
      · by_cases hki : k = i
        · subst hki; rw [hCi] at hk; exact .inr hk
        · rw [hCk k hki] at hk; exact .inl (.inr ⟨k, hki, hk⟩)
    · rintro ((hx | ⟨k, hki, hk⟩) | hb)
      · exact .inl hx
      · exact .inr ⟨k, by rw [hCk k hki]; exact hk⟩
      · exact .inr ⟨i, by rw [hCi]; exact hb⟩
  have hXC' : XB X C = Sub (XBo X B i) (owns (m.2 x).2) := by funext b; exact propext (hXC b)
  have hOO : OO ((m.2 x).2 ++ h) (XBo X B i) = OO h (XB X C) := by
    funext b; simp only [OO, owns_append, List.mem_append, eq_iff_iff, hXC]
    exact ⟨fun q => by rcases q with (q | q) | q <;> simp [q], fun q => by rcases q with q | q | q <;> simp [q]⟩
  have hnd := hh.nodup
  rw [owns_append, List.nodup_append] at hnd
  have hheap : HRel (XB X C) w' h := by
    rw [hXC']
    exact (hh.perm List.perm_append_comm).part
  have hfresh : ∀ b ∈ owns (m.2 x).2, w.heap.size ≤ b ∨ b ∈ B i := fun b hb => by
    refine Classical.byContradiction fun hlt => ?_
    rw [not_or] at hlt
    have hlt1 : b < w.heap.size := by omega
    have hbh : b ∉ owns h := fun hm => hnd.2.2 b hb b hm rfl
    exact (hk.same b hlt1 (by rw [owns_append, List.mem_append, p1]; exact fun q => q.elim hlt.2 hbh)).2 (by rw [owns_append]; exact List.mem_append_left _ hb)
  have hBh : ∀ k b, b ∈ B k → b ∉ owns h := fun k b hb hm => (hi.heap.lt b hm).2 (.inr ⟨k, hb⟩)
  have hsame : ∀ b, b < w.heap.size → b ∉ owns h → b ∉ B i → w'.heap[b]? = w.heap[b]? := fun b h1 h2 h3 => (hk.same b h1 (by rw [owns_append, List.mem_append, p1]; exact fun q => q.elim h3 h2)).1
  have hkk : ∀ b, ¬ OO h (XB X B) b → b < w.heap.size → w'.heap[b]? = w.heap[b]? ∧ ¬ OO h (XB X C) b := fun b hb hl =>
    ⟨hsame b hl (fun q => hb (.inl q)) (fun q => hb (.inr (.inr ⟨i, q⟩))), fun hm => by
      rcases hm with hm | hm
      · exact hb (.inl hm)
      · rcases (hXC b).1 hm with (hm | ⟨k, _, hm⟩) | hm
        · exact hb (.inr (.inl hm))
        · exact hb (.inr (.inr ⟨k, hm⟩))
        · rcases hfresh b hm with q | q
          · omega
          · exact hb (.inr (.inr ⟨i, q⟩))⟩
  have hlB : ∀ k b, b ∈ B k → b < w.heap.size := fun k b hb => hi.heap.xlt b (.inr ⟨k, hb⟩)
  have hkB : ∀ k b, k ≠ i → b ∈ B k → w'.heap[b]? = w.heap[b]? := fun k b hki hb => hsame b (hlB k b hb) (hBh k b hb) (fun q => hki (hi.inj k i b hb q))
  have hne : ∀ j oj dj, j < n → j ≠ i → l[j]? = some oj → oj.dst = some dj → d ≠ dj := fun j oj dj hj hji hoj hdj => by
    obtain ⟨_, g3, _⟩ := hc.one hin ho hd
    exact g3 j hj hji dj (by simp [dstOf, hoj, hdj])
  have hput : ∀ d', d ≠ d' → (a.put (some d) v).tmps[d']? = a.tmps[d']? := fun d' hdd => by simp [Act.put, hdd]
  have hgs : (listed.setIfInBounds i true).getD i false = true := getD_set_self (by rw [hi.size]; exact (List.getElem?_eq_some_iff.1 ho).1)
  have hkeep : Keep (owns h ++ CO) w0 (owns h ++ CO) w' := ⟨Nat.le_trans hi.keep.size hk.size, fun b hb ho => ⟨(hsame b (Nat.lt_of_lt_of_le hb hi.keep.size) (fun q => ho (List.mem_append_left _ q)) (fun q => by
    rcases (hi.blk i b q).2.2 with g | g
    · omega
    · exact ho (List.mem_append_right _ g))).trans (hi.keep.same b hb ho).1, ho⟩, hk.env.1.trans hi.keep.env.1, hk.env.2.trans hi.keep.env.2⟩
  refine ⟨by simp [hi.size], closedM hc hi hp, fun k hk => ?_, by simp [Act.put, hi.tsz], hi.defs, hheap, fun j k b hj hk => ?_, fun k b hb => ?_, fun k mk hkn hmk hlk => ?_, fun k ok dk mk hkn hok hdk hmk hlk => ?_, fun k hk => ?_, fun k ok dk avk hkn hok hdk havk hlk => ?_, fun d' av' hd' hlk => ?_, hkeep⟩
  · rw [getD_set_ne false (by omega)]; exact hi.tail k hk
  · by_cases hji : j = i <;> by_cases hki : k = i
    · omega
    · subst hji; rw [hCi] at hj; rw [hCk k hki] at hk
      rcases hfresh b hj with q | q
      · have := hlB k b hk; omega
      · exact hi.inj j k b q hk
    · subst hki; rw [hCi] at hk; rw [hCk j hji] at hj
      rcases hfresh b hk with q | q
      · have := hlB j b hj; omega
      · exact hi.inj j k b hj q
    · rw [hCk j hji] at hj; rw [hCk k hki] at hk; exact hi.inj j k b hj hk
  · by_cases hki : k = i
    · subst hki
      rw [hCi] at hb
      refine ⟨hin, fun hx => (hh.lt b (by rw [owns_append]; exact List.mem_append_left _ hb)).2 (.inl hx), ?_⟩
      rcases hfresh b hb with q | q
      · have := hi.keep.size; exact .inl (by omega)
      · exact (hi.blk k b q).2.2
    · rw [hCk k hki] at hb
      exact hi.blk k b hb
  · by_cases hki : k = i
    · subst hki; rw [hgs] at hlk; cases hlk
    · rw [getD_set_ne false (fun e => hki e.symm)] at hlk
      obtain ⟨g1, g2, g3⟩ := hi.pend k mk hkn hmk hlk
      exact ⟨by rw [hCk k hki]; exact g1, by rw [hCk k hki]; exact g2, fun r hr' => Res.holds_keep hk.size hkk (fun b hb => hkB k b hki (g1 ▸ mem_owns.2 ⟨r, hr', hb⟩)) (g3 r hr')⟩
  · by_cases hki : k = i
    · subst hki
      have : ok = o := Option.some.inj (hok.symm.trans ho)
      subst this
      have : dk = d := Option.some.inj (hdk.symm.trans hd)
      subst this
      have : mk = m := Option.some.inj (Option.some.inj (hmk.symm.trans hms))
      subst this
      exact ⟨x, v, by simp [Act.put, hi.tsz, hdn], hCi.symm, by rw [hCi]; exact hnd.1, by rw [← hOO]; exact hr, fun r hr' => by rw [← hOO]; exact hh.holds r (List.mem_append_left _ hr')⟩
    · rw [getD_set_ne false (fun e => hki e.symm)] at hlk
      obtain ⟨x', v', g1, g2, g3, g5, g4⟩ := hi.mks k ok dk mk hkn hok hdk hmk hlk
      exact ⟨x', v', by rw [hput dk (hne k ok dk hkn hki hok hdk)]; exact g1, by rw [hCk k hki]; exact g2, by rw [hCk k hki]; exact g3, g5.keep hk.size hkk, fun r hr' => Res.holds_keep hk.size hkk (fun b hb => hkB k b hki (g2 ▸ mem_owns.2 ⟨r, hr', hb⟩)) (g4 r hr')⟩
  · have hki : k ≠ i := fun e => by subst e; rw [hms] at hk; cases hk
    rw [hCk k hki]; exact hi.nomk k hk
  · have hki : i ≠ k := fun e => by subst e; rw [has] at havk; cases havk
    rw [getD_set_ne false hki] at hlk
    obtain ⟨u, e, r⟩ := hi.vals k ok dk avk hkn hok hdk havk hlk
    exact ⟨u, by rw [hput dk (hne k ok dk hkn (fun h => hki h.symm) hok hdk)]; exact e, r.keep hk.size hkk⟩
  · have hdd : d ≠ d' := fun e => hd' i hin (by simp [dstOf, ho, hd, e])
    obtain ⟨u, e, r⟩ := hi.base d' av' hd' hlk
    exact ⟨u, by rw [hput d' hdd]; exact e, r.keep hk.size hkk⟩
end
end Go.Ab
/- The abstract logic, part 22: the rule of regions that draw their order and make memory, put together. Conditions: the program draws freely ('mixedOrders'). -/
set_option linter.unusedVariables false
set_option linter.unusedSimpArgs false
namespace Go.Ab
open Go
theorem assembleM {X : Nat → Prop} {K : Fr → List Res → Prop} {tmps : Array Value} {w : World} {B : Nat → List Nat} {Oq : Nat → Prop} : ∀ (os : List Oper) (ms : List (Option CM)) (k : Nat) (e : Fr) (hc : List Res),
    HRel (fun b => X b ∨ ∃ i : Nat, k ≤ i ∧ b ∈ B i) w hc → OO hc (fun b => X b ∨ ∃ i : Nat, k ≤ i ∧ b ∈ B i) = Oq →
    (∀ (i j : Nat) b, b ∈ B i → b ∈ B j → i = j) →
    (∀ (i : Nat) o m, os[i]? = some o → ms[i]? = some (some m) → ∃ x v d, o.dst = some d ∧ tmps[d]? = some v ∧ owns (m.2 x).2 = B (k + i) ∧ (B (k + i)).Nodup ∧ Rel w Oq (m.2 x).1 v ∧ (∀ r ∈ (m.2 x).2, r.holds w Oq) ∧ ∀ b ∈ B (k + i), ¬ X b) →
    (∀ (i : Nat), ms[i]? = some none → B (k + i) = []) → (∀ i, k + os.length ≤ i → B i = []) → ms.length = os.length →
    (∀ d av, lk e d = some av → ∃ v, tmps[d]? = some v ∧ Rel w Oq av v) → dallocM os ms e hc K →
    ∃ e' h', K e' h' ∧ HRel X w h' ∧ OO h' X = Oq ∧ (∀ d av, lk e' d = some av → ∃ v, tmps[d]? = some v ∧ Rel w Oq av v) ∧ (∀ d, lk e d ≠ none → lk e' d ≠ none) ∧ (∀ (i : Nat) o m d, os[i]? = some o → ms[i]? = some (some m) → o.dst = some d → lk e' d ≠ none) ∧
      (∀ b, b ∈ owns h' → b ∈ owns hc ∨ ∃ i, b ∈ B i)
  | [], ms, k, e, hc, hh, hO, hinj, hmk, hno, hend, hml, he, hd => by
    have hXX : (fun b => X b ∨ ∃ i : Nat, k ≤ i ∧ b ∈ B i) = X := by
      funext b; simp only [eq_iff_iff]
      exact ⟨fun hm => hm.elim id fun ⟨i, hi, hb⟩ => (by rw [hend i (by simpa using hi)] at hb; cases hb), .inl⟩
    rw [hXX] at hh hO
    have hd' : K e hc := by cases ms <;> simpa [dallocM] using hd
    exact ⟨e, hc, hd', hh, hO, he, fun _ h => h, fun i o m d h => by simp at h, fun b hb => .inl hb⟩
  | o :: os, [], k, e, hc, hh, hO, hinj, hmk, hno, hend, hml, he, hd => by simp at hml
  | o :: os, none :: ms, k, e, hc, hh, hO, hinj, hmk, hno, hend, hml, he, hd => by
    have shift : ∀ (i : Nat), k + 1 + i = k + (i + 1) := fun i => by omega
    have hB0 := hno 0 rfl
    rw [Nat.add_zero] at hB0
    have hX1 : (fun x => X x ∨ ∃ i : Nat, k ≤ i ∧ x ∈ B i) = fun x => X x ∨ ∃ i : Nat, k + 1 ≤ i ∧ x ∈ B i := by
      funext x; simp only [eq_iff_iff]
      constructor
      · rintro (hx | ⟨i, hi, hb⟩)
        · exact .inl hx
        · by_cases hik : i = k
          · subst hik; rw [hB0] at hb; cases hb
          · exact .inr ⟨i, by omega, hb⟩
      · rintro (hx | ⟨i, hi, hb⟩)
        · exact .inl hx
        · exact .inr ⟨i, by omega, hb⟩
    rw [hX1] at hh hO
    obtain ⟨e', h', r1, r2, r3, r4, r5, r6, r7⟩ := assembleM os ms (k + 1) e hc hh hO hinj (fun i o' m ho' hm' => by rw [shift]; exact hmk (i + 1) o' m (by simpa using ho') (by simpa using hm')) (fun i hm' => by rw [shift]; exact hno (i + 1) (by simpa using hm'))
      (fun i hi => hend i (by simp; omega)) (by simpa using hml) he (by simpa [dallocM] using hd)
    refine ⟨e', h', r1, r2, r3, r4, r5, fun i o' m d2 ho' hm' hd' => ?_, r7⟩
    cases i with
    | zero => simp at hm'
    | succ i => exact r6 i o' m d2 (by simpa using ho') (by simpa using hm') hd'
  | o :: os, some m :: ms, k, e, hc, hh, hO, hinj, hmk, hno, hend, hml, he, hd => by
    have shift : ∀ (i : Nat), k + 1 + i = k + (i + 1) := fun i => by omega
    obtain ⟨x, v, d, h1, h2, h3, h4, h5, h6, h7⟩ := hmk 0 o m rfl rfl
    rw [Nat.add_zero] at h3 h4 h7
    have hX1 : (fun y => X y ∨ ∃ i : Nat, k ≤ i ∧ y ∈ B i) = Sub (fun y => X y ∨ ∃ i : Nat, k + 1 ≤ i ∧ y ∈ B i) (owns (m.2 x).2) := by
      funext y; simp only [Sub, eq_iff_iff, h3]
      constructor
      · rintro (hx | ⟨i, hi, hb⟩)
        · exact .inl (.inl hx)
        · by_cases hik : i = k
          · subst hik; exact .inr hb
          · exact .inl (.inr ⟨i, by omega, hb⟩)
      · rintro ((hx | ⟨i, hi, hb⟩) | hb)
        · exact .inl hx
        · exact .inr ⟨i, by omega, hb⟩
        · exact .inr ⟨k, Nat.le_refl _, hb⟩
    rw [hX1] at hh hO
    have hh2 := HRel.addres hh (by rw [h3]; exact h4) (fun b hb => fun q => by
      rw [h3] at hb
      rcases q with q | ⟨i, hi, hb'⟩
      · exact h7 b hb q
      · have := hinj i k b hb' hb; omega) (fun r hr => by rw [hO]; exact h6 r hr)
    have hO2 : OO ((m.2 x).2 ++ hc) (fun y => X y ∨ ∃ i : Nat, k + 1 ≤ i ∧ y ∈ B i) = Oq := by
      rw [← hO]
      funext b; simp only [OO, Sub, owns_append, List.mem_append, eq_iff_iff]
      exact ⟨fun q => by rcases q with (q | q) | q <;> simp [q], fun q => by rcases q with q | q | q <;> simp [q]⟩
    have hd2 : dallocM os ms ((d, (m.2 x).1) :: e) ((m.2 x).2 ++ hc) K := by
      simp only [dallocM] at hd; exact hd d x h1
    obtain ⟨e', h', r1, r2, r3, r4, r5, r6, r7⟩ := assembleM os ms (k + 1) _ _ hh2 hO2 hinj (fun i o' m ho' hm' => by rw [shift]; exact hmk (i + 1) o' m (by simpa using ho') (by simpa using hm')) (fun i hm' => by rw [shift]; exact hno (i + 1) (by simpa using hm'))
      (fun i hi => hend i (by simp; omega)) (by simpa using hml) (fun d2 av h => by
        simp only [lk] at h
        split at h
        · rename_i hb
          have := Nat.eq_of_beq_eq_true hb
          subst this
          cases h
          exact ⟨v, h2, h5⟩
        · exact he d2 av h) hd2
    refine ⟨e', h', r1, r2, r3, r4, fun d2 h => r5 d2 ?_, fun i o' m' d2 ho' hm' hd' => ?_, fun y hy => ?_⟩
    · simp only [lk]; split
      · simp
      · exact h
    · cases i with
      | zero =>
        simp only [List.getElem?_cons_zero, Option.some.injEq] at ho'
        subst ho'
        have : d2 = d := Option.some.inj (hd'.symm.trans h1)
        subst this
        exact r5 d2 (by simp [lk])
      | succ i => exact r6 i o' m' d2 (by simpa using ho') (by simpa using hm') hd'
    · rcases r7 y hy with hy | hy
      · rw [owns_append, List.mem_append] at hy
        rcases hy with hy | hy
        · exact .inr ⟨k, h3 ▸ hy⟩
        · exact .inl hy
      · exact .inr hy
def consOf (ms : List (Option CM)) : List Res := ms.flatMap fun m => match m with
  | some m => m.1
  | none => []
def own1 (m : Option CM) : List Nat := match m with
  | some m => owns m.1
  | none => []
def consAt (ms : List (Option CM)) (i : Nat) : List Nat := match ms[i]? with
  | some (some m) => owns m.1
  | _ => []
theorem consAt_mem : ∀ {ms : List (Option CM)} {b : Nat}, (∃ i, b ∈ consAt ms i) ↔ b ∈ owns (consOf ms)
  | [], b => by simp [consAt, consOf, owns]
  | m :: ms, b => by
    have ih := consAt_mem (ms := ms) (b := b)
    have e : owns (consOf (m :: ms)) = own1 m ++ owns (consOf ms) := by
      cases m <;> simp [consOf, owns_append, owns, own1]
    rw [e, List.mem_append, ← ih]
    constructor
    · rintro ⟨i, h⟩
      cases i with
      | zero => left; cases m <;> simp [consAt, own1] at h ⊢; exact h
      | succ i => exact .inr ⟨i, by simpa [consAt] using h⟩
    · rintro (h | ⟨i, h⟩)
      · exact ⟨0, by cases m <;> simp [consAt, own1] at h ⊢; exact h⟩
      · exact ⟨i + 1, by simpa [consAt] using h⟩
theorem consAt_inj : ∀ {ms : List (Option CM)}, (owns (consOf ms)).Nodup → (∀ (i j : Nat) b, b ∈ consAt ms i → b ∈ consAt ms j → i = j) ∧ ∀ i, (consAt ms i).Nodup
  | [], _ => ⟨fun i j b h => by simp [consAt] at h, fun i => by simp [consAt]⟩
  | m :: ms, hn => by
    have e : owns (consOf (m :: ms)) = own1 m ++ owns (consOf ms) := by
      cases m <;> simp [consOf, owns_append, owns, own1]
    have e0 : consAt (m :: ms) 0 = own1 m := by cases m <;> rfl
    have e1 : ∀ i, consAt (m :: ms) (i + 1) = consAt ms i := fun i => by simp [consAt]
    rw [e, List.nodup_append] at hn
    obtain ⟨h1, h2⟩ := consAt_inj hn.2.1
    refine ⟨fun i j b hi hj => ?_, fun i => ?_⟩
    · cases i with
      | zero =>
        cases j with
        | zero => rfl
        | succ j =>
          rw [e0] at hi; rw [e1] at hj
          exact absurd rfl (hn.2.2 b hi b (consAt_mem.1 ⟨j, hj⟩))
      | succ i =>
        cases j with
        | zero =>
          rw [e0] at hj; rw [e1] at hi
          exact absurd rfl (hn.2.2 b hj b (consAt_mem.1 ⟨i, hi⟩))
        | succ j => rw [e1] at hi hj; rw [h1 i j b hi hj]
    · cases i with
      | zero => rw [e0]; exact hn.1
      | succ i => rw [e1]; exact h2 i
theorem aw_drawC {P : Program} {ro : Option Nat} {nt rid : Nat} {Q : Exit → St → Prop} {l : List Oper} {t : Fr} {hh : List Res} {dsl : List Nat} (n : Nat) (h : List Res) [hm : Mixed P] (hc : soupOk l n = true)
    (hk : dsoupM P ro nt h dsl l (sdst l n) t (l.take n) [] (fun e ms => hh.Perm (consOf ms ++ h) ∧ dallocM (l.take n) ms e h (fun e' h' => aops P ro nt l.toArray (l.drop n) Q ⟨e' ++ t, h', dsl⟩))) : aw P ro nt (.region rid l.toArray true) Q ⟨t, hh, dsl⟩ := by
  intro X a0 w0 hs
  have hC := soupC_of hc
  obtain ⟨aS, ms, hfacts, hp, hK⟩ := factsM_of hk
  have hperm := hs.heap.perm hp
  have hown0 : ∀ b, b ∈ owns hh ↔ b ∈ owns h ∨ b ∈ owns (consOf ms) := fun b => by rw [(owns_perm hp).mem_iff, owns_append, List.mem_append]; exact Or.comm
  have hasl : aS.length = n := by have := hfacts.length.1; rw [this]; have := hC.le; simp; omega
  have hmsl : ms.length = n := by have := hfacts.length.2; rw [this]; have := hC.le; simp; omega
  refine wpIn_region_any hm.h ?_
  have main : ∀ (fuel : Nat) (U : List Nat) (B : Nat → List Nat) (listed : Array Bool) (a : Act) (w : World), InvM P X nt h (owns (consOf ms)) l n t dsl aS ms w0 B listed a w → (∀ i, i < l.length → listed.getD i false = false → i ∈ U) → U.length ≤ fuel →
      wpAnyIn (FW ro) 0 P .any l.toArray (AOut X nt ⟨t, hh, dsl⟩ w0 Q) fuel listed a w := by
    have done : ∀ (fuel : Nat) (U : List Nat) (B : Nat → List Nat) (listed : Array Bool) (a : Act) (w : World), InvM P X nt h (owns (consOf ms)) l n t dsl aS ms w0 B listed a w → (∀ i, i < l.length → listed.getD i false = false → i ∈ U) → U.length ≤ fuel →
        (∀ i, i < n → listed.getD i false = true) → wpAnyIn (FW ro) 0 P .any l.toArray (AOut X nt ⟨t, hh, dsl⟩ w0 Q) fuel listed a w := by
      intro fuel U B listed a w hi hU hf hall
      refine tail_seq hC fuel U n listed a w (Nat.le_refl _) hC.le hi.size (fun j hj => ⟨fun hl => ?_, fun hl => hall j hl⟩) (fun i h1 h2 => hU i h2 (hi.tail i h1)) hf ?_
      · rcases Nat.lt_or_ge j n with h | h
        · exact h
        · rw [hi.tail j h] at hl; cases hl
      · have hlt : ∀ (i : Nat) o, (l.take n)[i]? = some o → i < n ∧ l[i]? = some o := fun i o ho => by
          have := (List.getElem?_eq_some_iff.1 ho).1
          have hin : i < n := by simp at this; omega
          exact ⟨hin, by rw [List.getElem?_take_of_lt hin] at ho; exact ho⟩
        have hX0 : (fun b => X b ∨ ∃ i : Nat, 0 ≤ i ∧ b ∈ B i) = XB X B := by funext b; simp [XB]
        obtain ⟨e', h', r1, r2, r3, r4, r5, r6, r7⟩ := assembleM (X := X) (tmps := a.tmps) (w := w) (B := B) (Oq := OO h (XB X B)) (l.take n) ms 0 _ h (by rw [hX0]; exact hi.heap) (by rw [hX0]) hi.inj
          (fun i o m ho hms => by
            obtain ⟨hin, hlo⟩ := hlt i o ho
            rcases hfacts.at i o ho with ⟨a', _, g, _⟩ | ⟨m', _, g, d, hd, _⟩
            · rw [g] at hms; cases hms
            · obtain ⟨x, v, q1, q2, q3, q4, q5⟩ := hi.mks i o d m hin hlo hd hms (hall i hin)
              rw [Nat.zero_add]
              exact ⟨x, v, d, hd, q1, q2, q3, q4, q5, fun b hb => (hi.blk i b hb).2.1⟩)
          (fun i hms => by rw [Nat.zero_add]; exact hi.nomk i hms)
          (fun i hin => by
            cases hb : B i with
            | nil => rfl
            | cons b r => have := (hi.blk i b (by simp [hb])).1; simp at hin; have := hC.le; omega)
          (by rw [hmsl]; have := hC.le; simp; omega)
          (fun d av hl => by
            rcases lk_entsM hl with ⟨i, o, g1, g2, g4⟩ | g1
            · obtain ⟨hin, hlo⟩ := hlt i o g1
              exact hi.vals i o d av hin hlo g4 g2 (hall i hin)
            · simp [lk] at g1) hK
        have hsim : Sim X nt ⟨e' ++ t, h', dsl⟩ a w := by
          refine ⟨r2, hi.tsz, fun d av hl => ?_, hi.defs⟩
          show ∃ v, a.tmps[d]? = some v ∧ Rel w (OO h' X) av v
          rw [r3]
          have hl' : lk (e' ++ t) d = some av := hl
          rw [lk_append] at hl'
          cases he : lk e' d with
          | some av' => simp only [he] at hl'; cases hl'; exact r4 d _ he
          | none =>
            simp only [he] at hl'
            refine hi.base d av (fun j hj hd => ?_) hl'
            obtain ⟨o, g1⟩ : ∃ o, l[j]? = some o := ⟨l[j]'(by have := hC.le; omega), by simp [show j < l.length by have := hC.le; omega]⟩
            have g2 : o.dst = some d := by simpa [dstOf, g1] using hd
            have ho : (l.take n)[j]? = some o := by rw [List.getElem?_take_of_lt hj]; exact g1
            rcases hfacts.at j o ho with ⟨a', q1, _⟩ | ⟨m', _, q1, _⟩
            · exact r5 d (lk_entsM_some ho q1 g2) he
            · exact r6 j o m' d ho q1 g2 he
        have := r1 X a w hsim
        refine wpListIn_aout_mono (s := ⟨t, hh, dsl⟩) (s' := ⟨e' ++ t, h', dsl⟩) ⟨hi.keep.size, fun b hb hn => ⟨(hi.keep.same b hb (fun q => hn ((hown0 b).2 (List.mem_append.1 q)))).1, fun hm => ?_⟩, hi.keep.env⟩ this
        rcases r7 b hm with hm | ⟨i, hB⟩
        · exact hn ((hown0 b).2 (.inl hm))
        · rcases (hi.blk i b hB).2.2 with q | q
          · omega
          · exact hn ((hown0 b).2 (.inr q))
    intro fuel
    induction fuel with
    | zero =>
      intro U B listed a w hi hU hf
      refine done 0 U B listed a w hi hU hf fun i hin => ?_
      have hU0 : U = [] := List.eq_nil_of_length_eq_zero (by omega)
      cases hl : listed.getD i false with
      | true => rfl
      | false => have := hU i (by have := hC.le; omega) hl; simp [hU0] at this
    | succ fuel ih =>
      intro U B listed a w hi hU hf
      by_cases hall : ∀ i, i < n → listed.getD i false = true
      · exact done _ U B listed a w hi hU hf hall
      · have hready : ∀ i, i ∈ Region.ready .any l.toArray listed → i < n ∧ listed.getD i false = false ∧ i < l.length ∧ ∀ j ∈ predsOf l i, listed.getD j false = true := by
          intro i hir
          obtain ⟨h1, h2, h3⟩ := ready_iff.1 hir
          have hun : listed.getD i false = false := by rw [getD_tf (by rw [hi.size]; exact h2) false true]; exact h1
          refine ⟨?_, hun, h2, h3⟩
          rcases Nat.lt_or_ge i n with h | h
          · exact h
          · exfalso
            apply hall
            intro j hj
            exact clos_listed hi.closed i _ h3 j (hC.tail i h h2 j (by omega))
        have hsome : ∀ m, (∃ i, i < n ∧ i < m ∧ listed.getD i false = false) → Region.ready .any l.toArray listed ≠ [] := by
          intro m
          induction m with
          | zero => rintro ⟨i, _, h, _⟩; omega
          | succ m ihm =>
            rintro ⟨i, hin, him, hun⟩
            by_cases hp : ∀ j ∈ predsOf l i, listed.getD j false = true
            · intro h0
              have hin' : i < l.length := by have := hC.le; omega
              have : i ∈ Region.ready .any l.toArray listed := ready_iff.2 ⟨by rw [getD_tf (by rw [hi.size]; exact hin') true false]; exact hun, hin', hp⟩
              rw [h0] at this; exact absurd this (by simp)
            · have : ∃ j, j ∈ predsOf l i ∧ listed.getD j false = false := by
                refine Classical.byContradiction fun hne => hp fun j hj => ?_
                cases hl : listed.getD j false with
                | true => rfl
                | false => exact absurd ⟨j, hj, hl⟩ hne
              obtain ⟨j, hj, hjun⟩ := this
              have := hC.back i (by have := hC.le; omega) j hj
              exact ihm ⟨j, by omega, by omega, hjun⟩
        refine ⟨fun h0 => ?_, fun i hir => ?_⟩
        · exfalso
          have : ∃ i, i < n ∧ listed.getD i false = false := by
            refine Classical.byContradiction fun hne => hall fun i hin => ?_
            cases hl : listed.getD i false with
            | true => rfl
            | false => exact absurd ⟨i, hin, hl⟩ hne
          obtain ⟨i, hin, hun⟩ := this
          exact hsome (i + 1) ⟨i, hin, by omega, hun⟩ h0
        · obtain ⟨hin, hun, hil, hp⟩ := hready i hir
          have ho : l[i]? = some l[i] := by simp [hil]
          generalize l[i] = o at ho
          have hU' : ∀ k, k < l.length → (listed.setIfInBounds i true).getD k false = false → k ∈ U.erase i := fun k hkl hk => by
            have hki : i ≠ k := fun e => by subst e; rw [getD_set_self (by rw [hi.size]; exact hil)] at hk; cases hk
            rw [getD_set_ne false hki] at hk
            exact (List.mem_erase_of_ne (fun h => hki h.symm)).2 (hU k hkl hk)
          have hf' : (U.erase i).length ≤ fuel := by rw [List.length_erase_of_mem (hU i hil hun)]; omega
          unfold wpOpIn
          simp only [List.getElem?_toArray, ho]
          rcases hfacts.at i o (by rw [List.getElem?_take_of_lt hin]; exact ho) with ⟨av, q1, q2, d, hd, hdn, q3⟩ | ⟨m, q1, q2, d, hd, hdn, hgn, q3⟩
          · rcases q3 with ⟨hg, hq⟩ | ⟨hg, rfl⟩
            · rw [if_pos (hi.guard hC ho hin hp hg)]
              refine hq _ a w _ _ (hi.env hC ho hin hp) fun v w' hr hh hkp => ?_
              rw [hd]
              exact ih (U.erase i) B _ _ _ (hi.stepQ hC ho hin hp hd (Nat.le_of_ble_eq_true hdn) q1 q2 hr hh hkp) hU' hf'
            · rw [if_neg (by rw [hi.guard hC ho hin hp hg]; simp)]
              refine ⟨about_true, ?_⟩
              rw [hd]
              exact ih (U.erase i) B _ _ _ (hi.stepQ hC ho hin hp hd (Nat.le_of_ble_eq_true hdn) q1 q2 (.v _) hi.heap (.refl _ _)) hU' hf'
          · rw [if_pos (by simp [Region.wanted, hgn])]
            obtain ⟨o1, o2⟩ := hi.open hin q2 hun
            have henv := hi.env hC ho hin hp
            refine q3 _ a w _ _ hi.tsz hi.defs ⟨o1, fun z av hz => by rw [o2]; exact henv.rel z av hz⟩ fun x v w' hr hh hkp => ?_
            rw [hd]
            exact ih (U.erase i) _ _ _ _ (hi.stepM hC ho hin hp hd (Nat.le_of_ble_eq_true hdn) q1 q2 hun hr hh hkp) hU' hf'
  have hX0 : XB X (consAt ms) = Sub X (owns (consOf ms)) := by funext b; simp only [XB, Sub, consAt_mem]
  have hpart : HRel (Sub X (owns (consOf ms))) w0 h := (hperm.perm List.perm_append_comm).part
  have hO0 : OO h (XB X (consAt ms)) = OO hh X := by
    rw [hX0]; funext b; simp only [OO, Sub, hown0, eq_iff_iff]
    exact ⟨fun q => by rcases q with q | q | q <;> simp [q], fun q => by rcases q with (q | q) | q <;> simp [q]⟩
  have hnd := hperm.nodup
  rw [owns_append, List.nodup_append] at hnd
  obtain ⟨hinj, hndi⟩ := consAt_inj hnd.1
  have hsz : l.toArray.size = l.length := by simp
  have hrep : ∀ i, (Array.replicate l.length false).getD i false = false := getD_rep l.length
  refine main l.toArray.size (List.range l.length) (consAt ms) _ a0 { w0 with drawn := w0.drawn + 1 } ⟨by simp, fun i hi => ?_, fun i _ => ?_, hs.size, hs.defs, ?_, hinj, fun i b h => ?_, fun i m hin hms _ => ?_, fun i o d m _ _ _ _ h => ?_, fun i h => ?_, fun i o d av _ _ _ _ h => ?_, fun d av _ hl => ?_, ⟨Nat.le_refl _, fun b _ h => ⟨rfl, h⟩, rfl, rfl⟩⟩
    (fun i hi _ => List.mem_range.2 hi) (by simp)
  · rw [hsz, hrep i] at hi; cases hi
  · rw [hsz]; exact hrep i
  · rw [hX0]; exact hpart.grow (Nat.le_refl _) fun _ _ => rfl
  · refine ⟨?_, fun hx => ?_, .inr (consAt_mem.1 ⟨i, h⟩)⟩
    · rw [← hmsl]
      unfold consAt at h
      split at h
      · rename_i m hm; exact (List.getElem?_eq_some_iff.1 hm).1
      · cases h
    · exact (hperm.lt b (by rw [owns_append]; exact List.mem_append_left _ (consAt_mem.1 ⟨i, h⟩))).2 hx
  · refine ⟨by simp [consAt, hms], hndi i, fun r hr => ?_⟩
    rw [hO0]
    have hmem : r ∈ consOf ms ++ h := List.mem_append_left _ (List.mem_flatMap.2 ⟨some m, List.mem_of_getElem? hms, hr⟩)
    have := hperm.holds r hmem
    rw [← OO_perm hp] at this
    exact Res.holds_keep (w := w0) (Nat.le_refl _) (fun b hb _ => ⟨rfl, hb⟩) (fun _ _ => rfl) this
  · rw [hsz, hrep i] at h; cases h
  · simp [consAt, h]
  · rw [hsz, hrep i] at h; cases h
  · rw [hO0]
    obtain ⟨v, e, r⟩ := hs.fr d av hl
    exact ⟨v, e, Rel.keep (w := w0) (Nat.le_refl _) (fun b hb _ => ⟨rfl, hb⟩) r⟩
theorem aw_drawM {P : Program} {ro : Option Nat} {nt rid : Nat} {Q : Exit → St → Prop} {l : List Oper} {t : Fr} {h : List Res} {dsl : List Nat} (n : Nat) [hm : Mixed P] (hc : soupOk l n = true)
    (hk : dsoupM P ro nt h dsl l (sdst l n) t (l.take n) [] (fun e ms => h.Perm (consOf ms ++ h) ∧ dallocM (l.take n) ms e h (fun e' h' => aops P ro nt l.toArray (l.drop n) Q ⟨e' ++ t, h', dsl⟩))) : aw P ro nt (.region rid l.toArray true) Q ⟨t, h, dsl⟩ :=
  aw_drawC n h hc hk
/-! The rules of a script. -/
section
variable {P : Program} {ro : Option Nat} {nt : Nat} {h : List Res} {dsl : List Nat} {l : List Oper} {sd : List Tmp} {t0 : Fr} {rest : List Oper} {e : Fr} {K : Fr → List (Option CM) → Prop} {o : Oper} {av : AV} {d : Tmp} {op : Op} {ty : TypeId} {pos : String} {after : Array Edge} {g : Option (Nat × Bool)} {x y z : Operand}
theorem mq (hg : gdS l (lkS sd (pdst l ⟨some d, op, ty, pos, after, g⟩) e t0) ⟨some d, op, ty, pos, after, g⟩ = some true) (hd : Nat.blt d nt = true)
    (hq : QR P h (evS sd (pdst l ⟨some d, op, ty, pos, after, g⟩) e t0) ⟨some d, op, ty, pos, after, g⟩ av) (hk : dsoupM P ro nt h dsl l sd t0 rest ((d, av) :: e) (fun e ms => K e (none :: ms)))
    (hn : notDefer ⟨some d, op, ty, pos, after, g⟩ = true := by rfl) : dsoupM P ro nt h dsl l sd t0 (⟨some d, op, ty, pos, after, g⟩ :: rest) e K :=
  .inl ⟨d, av, rfl, ⟨d, rfl, hd, .inl ⟨hg, qv_of_qr hq hn⟩⟩, hk⟩
theorem mv (hg : gdS l (lkS sd (pdst l ⟨some d, op, ty, pos, after, g⟩) e t0) ⟨some d, op, ty, pos, after, g⟩ = some true) (hd : Nat.blt d nt = true)
    (hq : QV P ro h (evS sd (pdst l ⟨some d, op, ty, pos, after, g⟩) e t0) ⟨some d, op, ty, pos, after, g⟩ av) (hk : dsoupM P ro nt h dsl l sd t0 rest ((d, av) :: e) (fun e ms => K e (none :: ms))) :
    dsoupM P ro nt h dsl l sd t0 (⟨some d, op, ty, pos, after, g⟩ :: rest) e K :=
  .inl ⟨d, av, rfl, ⟨d, rfl, hd, .inl ⟨hg, hq⟩⟩, hk⟩
theorem ms (hg : gdS l (lkS sd (pdst l ⟨some d, op, ty, pos, after, g⟩) e t0) ⟨some d, op, ty, pos, after, g⟩ = some false) (hd : Nat.blt d nt = true) (hk : dsoupM P ro nt h dsl l sd t0 rest ((d, .v (.tuple #[])) :: e) (fun e ms => K e (none :: ms))) :
    dsoupM P ro nt h dsl l sd t0 (⟨some d, op, ty, pos, after, g⟩ :: rest) e K :=
  .inl ⟨d, .v undef, rfl, ⟨d, rfl, hd, .inr ⟨hg, rfl⟩⟩, hk⟩
theorem mnil (hk : K e []) : dsoupM P ro nt h dsl l sd t0 [] e K := hk
theorem msplit {b : Bool} (h1 : b = true → dsoupM P ro nt h dsl l sd t0 rest ((d, .v (.bool true)) :: e) K) (h2 : b = false → dsoupM P ro nt h dsl l sd t0 rest ((d, .v (.bool false)) :: e) K) : dsoupM P ro nt h dsl l sd t0 rest ((d, .v (.bool b)) :: e) K := by
  cases b
  · exact h2 rfl
  · exact h1 rfl
/-- A call that makes something. -/
theorem mcall {args : List Operand} {tys : Array TypeId} {fv : AV} {avs : List AV} (m : MR) (hd : Nat.blt d nt = true) (hx : evS sd (pdst l ⟨some d, .call ⟨.value x, args.toArray, tys⟩, ty, pos, after, none⟩) e t0 x = some fv)
    (ha : evs (evS sd (pdst l ⟨some d, .call ⟨.value x, args.toArray, tys⟩, ty, pos, after, none⟩) e t0) args = some avs) (hc : FCall P fv avs h (fun r h' => ∃ x, r = (m x).1 ∧ h' = (m x).2 ++ h))
    (hk : dsoupM P ro nt h dsl l sd t0 rest e (fun e ms => K e (some ([], m) :: ms))) : dsoupM P ro nt h dsl l sd t0 (⟨some d, .call ⟨.value x, args.toArray, tys⟩, ty, pos, after, none⟩ :: rest) e K := by
  refine .inr ⟨([], m), ⟨d, rfl, hd, rfl, fun X a w K Q _ _ he hK => ?_⟩, hk⟩
  refine wpIn_call (f := 0) (hc X w _ _ he.heap (he.rel x _ hx) (he.evs ha)) ?_
  rintro e w' ⟨v, av', h', e1, ⟨x, rfl, rfl⟩, hrel, hh, hkeep⟩
  exact ⟨v, e1, hK x v w' hrel hh hkeep⟩
theorem minit {os : List Oper} {e : Fr} {h : List Res} {K : Fr → List Res → Prop} (hk : K e h) : dallocM [] [] e h K := hk
theorem mal_s {o : Oper} {os : List Oper} {ms : List (Option CM)} {e : Fr} {h : List Res} {K : Fr → List Res → Prop} (hk : dallocM os ms e h K) : dallocM (o :: os) (none :: ms) e h K := hk
theorem mal_m {op : Op} {ty : TypeId} {pos : String} {after : Array Edge} {g : Option (Nat × Bool)} {d : Tmp} {os : List Oper} {c : List Res} {m : MR} {ms : List (Option CM)} {e : Fr} {h : List Res} {K : Fr → List Res → Prop} (hk : ∀ x, dallocM os ms ((d, (m x).1) :: e) ((m x).2 ++ h) K) :
    dallocM (⟨some d, op, ty, pos, after, g⟩ :: os) (some (c, m) :: ms) e h K := fun d' x e => by cases e; exact hk x
theorem mal_nil {e : Fr} {h : List Res} {K : Fr → List Res → Prop} (hk : K e h) : dallocM [] [] e h K := hk
end
/-! Calls that make one row. -/
def MX.v0 (x : MX) : SV := x.vs.headD ⟨none, 0, 0⟩
abbrev mrow (sz : Nat) (T : TypeId) (rows : List (List AV)) : MR := fun x => (.v x.v0.v, [.row x.v0.v sz T rows])
theorem FCall.rowS {P : Program} {fv : AV} {args : List AV} {h : List Res} {sz : Nat} {T : TypeId} {rows : List (List AV)} (hc : FCall P fv args h (fun r h' => ∃ s, h' = [.row s sz T rows] ∧ r = .v s)) :
    FCall P fv args h (fun r h' => ∃ s : SV, h' = [.row s.v sz T rows] ∧ r = .v s.v) := by
  intro X w v vs hh hv ha
  refine (hc X w v vs hh hv ha).mono ?_
  rintro e w' ⟨u, av, h', e1, ⟨s, rfl, rfl⟩, hrel, hh', hk⟩
  have q := hh'.holds _ (List.mem_singleton.2 rfl)
  cases s with
  | slice a n c => exact ⟨u, _, _, e1, ⟨⟨a, n, c⟩, rfl, rfl⟩, hrel, hh', hk⟩
  | _ => exact q.elim
theorem mk_row {P : Program} {fv : AV} {args : List AV} {h : List Res} {sz : Nat} {T : TypeId} {rows : List (List AV)} (hc : FCall P fv args [] (fun r h' => ∃ s, h' = [.row s sz T rows] ∧ r = .v s)) :
    FCall P fv args h (fun r h' => ∃ x, r = (mrow sz T rows x).1 ∧ h' = (mrow sz T rows x).2 ++ h) := by
  refine (hc.rowS.frame h).mono ?_
  rintro r _ ⟨h1, rfl, s, rfl, rfl⟩
  exact ⟨⟨[s], []⟩, rfl, rfl⟩
theorem mal_row {op : Op} {ty : TypeId} {pos : String} {after : Array Edge} {g : Option (Nat × Bool)} {d : Tmp} {os : List Oper} {sz : Nat} {T : TypeId} {rows : List (List AV)} {c : List Res} {ms : List (Option CM)} {e : Fr} {h : List Res} {K : Fr → List Res → Prop}
    (hk : ∀ s : SV, dallocM os ms ((d, .v s.v) :: e) (.row s.v sz T rows :: h) K) : dallocM (⟨some d, op, ty, pos, after, g⟩ :: os) (some (c, mrow sz T rows) :: ms) e h K := fun d' x e => by cases e; exact hk x.v0
/-- A field's place within an owned row. -/
theorem qr_fieldAddr_row {P : Program} {h : List Res} {f : Operand → Option AV} {dst : Option Tmp} {ty : TypeId} {pos : String} {after : Array Edge} {guard : Option (Nat × Bool)} {x : Operand} {T FT E : TypeId} {s : Value} {k sz i kk off n ri : Nat} {rows : List (List AV)} (hx : f x = some (.rp s sz i kk)) [hr : HasRow h s ri sz E rows] [hf : Fld P T k off FT] [Siz P FT n] (hn : n ≠ 0) :
    QR P h f ⟨dst, .fieldAddr T x k, ty, pos, after, guard⟩ (.rp s sz i (kk + off)) := fun X ρ w he => by
  have hrr := he.rel x _ hx
  generalize hv : ρ x = v at hrr
  cases hrr with
  | rp a len cap _ _ _ =>
    have hx2 := he.heap.holds _ (List.mem_of_getElem? hr.h)
    obtain ⟨h1, _⟩ := hx2
    obtain ⟨b, o, spot⟩ := a
    simp only at h1; subst h1
    refine ⟨_, run_v _ (by rw [hv, add_none]; exact run_fieldAt (n := n) (FT := FT) hn), ?_⟩
    have := Rel.rp (w := w) (O := OO h X) ⟨b, o, none⟩ len cap sz i (kk + off)
    rw [add_none, ← Nat.add_assoc (i * sz), ← Nat.add_assoc o] at this
    exact this
/-- A row's value is a slice. -/
theorem aops_slice {P : Program} {ro : Option Nat} {nt : Nat} {ops : Array Oper} {l : List Oper} {Q : Exit → St → Prop} {t : Fr} {h : List Res} {ds : List Nat} (s : Value) {i sz : Nat} {T : TypeId} {rows : List (List AV)} [hr : HasRow h s i sz T rows]
    (k : ∀ v : SV, s = v.v → aops P ro nt ops l Q ⟨t, h, ds⟩) : aops P ro nt ops l Q ⟨t, h, ds⟩ := fun X a w hs => by
  have q := hs.heap.holds _ (List.mem_of_getElem? hr.h)
  cases s with
  | slice a' n c => exact k ⟨a', n, c⟩ rfl X a w hs
  | _ => exact q.elim
section
variable {P : Program} {ro : Option Nat} {nt : Nat} {h : List Res} {dsl : List Nat} {l : List Oper} {sd : List Tmp} {t0 : Fr} {rest : List Oper} {e : Fr} {K : Fr → List (Option CM) → Prop} {d i j : Tmp} {ty : TypeId} {pos : String} {after : Array Edge}
/-- An append onto a row that nobody else uses there. -/
theorem mapp {T T2 E E2 bytes sz : Nat} {zv : Value} {full : Bool} {s : Value} {xs ys : List (List AV)} (hd : Nat.blt d nt = true) (hi : Nat.blt i nt = true) (hj : Nat.blt j nt = true) (hij : Nat.beq i j = false)
    (hx : evS sd (pdst l ⟨some d, .call ⟨.builtin .append, [.tmp i, .tmp j].toArray, [T, T2].toArray⟩, ty, pos, after, none⟩) e t0 (.tmp i) = some (.v s))
    (hy : evS sd (pdst l ⟨some d, .call ⟨.builtin .append, [.tmp i, .tmp j].toArray, [T, T2].toArray⟩, ty, pos, after, none⟩) e t0 (.tmp j) = some (.list full sz ys))
    [Und P T (.slice E)] [Und P T2 (.slice E2)] [Siz P E sz] [Byt P E bytes] [ZerV P E zv] (hneed : xs.length + ys.length ≤ 1099511627776) (hone : ∀ r ∈ ys, r.all AV.one = true)
    (hk : dsoupM P ro nt h dsl l sd t0 rest e (fun e ms => K e (some ([.row s sz E xs], mrow sz E (xs ++ ys)) :: ms))) (hb : bytes ≤ 128 := by decide) (hzs : zv.cells.size = sz := by rfl) :
    dsoupM P ro nt h dsl l sd t0 (⟨some d, .call ⟨.builtin .append, [.tmp i, .tmp j].toArray, [T, T2].toArray⟩, ty, pos, after, none⟩ :: rest) e K := by
  refine .inr ⟨([.row s sz E xs], mrow sz E (xs ++ ys)), ⟨d, rfl, hd, rfl, fun X a w K' Q h1 h2 he hK => ?_⟩, hk⟩
  have hlt : ∀ {k : Nat}, Nat.blt k nt = true → k < nt := fun q => Nat.le_of_ble_eq_true q
  have hget : ∀ {k : Nat}, Nat.blt k nt = true → a.tmps[k]? = some (a.eval (.tmp k)) := fun {k} q => by
    have := hlt q
    simp [Act.eval, Array.getD_eq_getD_getElem?, show k < a.tmps.size by omega]
  have hs : Sim X nt ⟨[(i, .v s), (j, .list full sz ys)], .row s sz E xs :: h, dsl⟩ a w := by
    refine ⟨he.heap, h1, fun k av hkk => ?_, h2⟩
    simp only [lk] at hkk
    split at hkk
    · rename_i hb'
      have := Nat.eq_of_beq_eq_true hb'
      subst this; cases hkk
      exact ⟨_, hget hi, he.rel _ _ hx⟩
    · split at hkk
      · rename_i hb'
        have := Nat.eq_of_beq_eq_true hb'
        subst this; cases hkk
        exact ⟨_, hget hj, he.rel _ _ hy⟩
      · cases hkk
  have hO := oe_append_row (P := P) (ro := ro) (nt := nt) (x := .tmp i) (y := .tmp j) (T := T) (T2 := T2) (ty := ty) (pos := pos) (after := after) (guard := none) (h := .row s sz E xs :: h) (d := d) (ds := dsl) (s := s) (xs := xs) (ys := ys) (full := full) (sz := sz) (E := E) (E2 := E2) (bytes := bytes) (zv := zv) (i := 0) (h' := fun s' => .row s' sz E (xs ++ ys) :: h) (next := fun s' => ∃ s2, s' = ⟨(d, .v s2) :: [(i, .v s), (j, .list full sz ys)], .row s2 sz E (xs ++ ys) :: h, dsl⟩) (t := [(i, .v s), (j, .list full sz ys)]) (by simp [ev, lk]) (by simp [ev, lk, hij]) hneed hd (fun s2 => ⟨s2, rfl⟩) hone hb hzs
  have hw := hO X a w (fun a' w' => ∀ v, a' = a.put (some d) v → K' (a.put (some d) v) w') Q hs (by
    rintro _ a' w' ⟨s2, rfl⟩ hs' hkp v hv
    obtain ⟨v2, e2, r2⟩ := hs'.fr d (.v s2) (by simp [lk])
    have hv2 : v2 = v := by
      subst hv
      have hdl : d < a.tmps.size := by rw [h1]; exact hlt hd
      simp [Act.put, hdl] at e2
      exact e2.symm
    have q := hs'.heap.holds _ (List.mem_cons_self)
    have hvs := r2.v_eq
    subst hv2; subst hvs
    cases v2 with
    | slice a0 n0 c0 => exact hK ⟨[⟨a0, n0, c0⟩], []⟩ _ _ (.v _) hs'.heap hkp
    | _ => exact q.elim)
  refine ⟨hw.1, ?_⟩
  have h2 := hw.2
  have hrun : (execOp a.eval ⟨some d, .call ⟨.builtin .append, [.tmp i, .tmp j].toArray, [T, T2].toArray⟩, ty, pos, after, none⟩).run P w = ((Builtin.append_ [T, T2].toArray ty [a.eval (.tmp i), a.eval (.tmp j)].toArray).run P w).andThen fun v w => .ok (.value v) w := by
    simp only [execOp, resolve, List.map_toArray, List.map_cons, List.map_nil, Sem.run_bind, Sem.run_pure, Result.andThen_ok, invoke, builtin]
  rw [semAt_nd rfl, hrun] at h2 ⊢
  generalize (Builtin.append_ [T, T2].toArray ty [a.eval (.tmp i), a.eval (.tmp j)].toArray).run P w = r at h2 ⊢
  cases r with
  | ok v w' => exact h2 v rfl
  | halt q w' => cases q <;> exact h2
end
end Go.Ab
/- The abstract logic, part 23: resources in pieces; a call on some of them, whatever stands around. Conditions: none (lemmas over any program). -/
set_option linter.unusedVariables false
namespace Go.Ab
open Go
/-- Pieces, one behind the other, and a rest. -/
def pcs : List (List Res) → List Res → List Res
  | [], L => L
  | x :: xs, L => x ++ pcs xs L
theorem pcs_out : ∀ (B : List (List Res)) (L : List Res), pcs B L = pcs B [] ++ L
  | [], L => rfl
  | x :: xs, L => by simp only [pcs]; rw [pcs_out xs L, List.append_assoc]
theorem pcs_perm {l1 l2 : List (List Res)} (p : l1.Perm l2) (L : List Res) : (pcs l1 L).Perm (pcs l2 L) := by
  induction p with
  | nil => exact .refl _
  | cons x _ ih => exact List.Perm.append_left x ih
  | swap x y l =>
    simp only [pcs]
    rw [← List.append_assoc, ← List.append_assoc]
    exact List.Perm.append_right _ List.perm_append_comm
  | trans _ _ ih1 ih2 => exact ih1.trans ih2
/-- A call on pieces G and a rest L, among others. -/
theorem FCall.around {P : Program} {fv : AV} {args : List AV} {L : List Res} {R : AV → List Res → List Res → Prop} (A G : List Res) (B : List (List Res)) (hc : FCall P fv args (G ++ L) (fun r h' => ∃ G' L', h' = G' ++ L' ∧ R r G' L')) :
    FCall P fv args (A ++ (G ++ pcs B L)) (fun r h' => ∃ G' L', h' = A ++ (G' ++ pcs B L') ∧ R r G' L') := by
  have hp : ∀ G L : List Res, (A ++ (G ++ pcs B L)).Perm ((G ++ L) ++ (A ++ pcs B [])) := fun G L => by
    rw [pcs_out B L]
    have e1 : (A ++ (G ++ (pcs B [] ++ L))).Perm (A ++ ((G ++ L) ++ pcs B [])) := by
      refine List.Perm.append_left A ?_
      rw [List.append_assoc]
      exact List.Perm.append_left G List.perm_append_comm
    refine e1.trans ?_
    rw [← List.append_assoc, ← List.append_assoc (G ++ L)]
    exact List.Perm.append_right _ List.perm_append_comm
  refine FCall.permR ((FCall.fr hc (hp G L)).mono ?_)
  rintro r _ ⟨h'', rfl, G', L', rfl, hR⟩
  exact ⟨_, (hp G' L').symm, G', L', rfl, hR⟩
theorem ent_pcs {nt : Nat} {t : Fr} {ds : List Nat} {l1 l2 : List (List Res)} {L : List Res} (p : l1.Perm l2) : Ent nt ⟨t, pcs l1 L, ds⟩ ⟨t, pcs l2 L, ds⟩ := ent_perm (pcs_perm p L)
/-- A row of one's own, held by a cell, becomes a list that nobody writes. -/
theorem vent_freeze_cell {h : List Res} {s : Value} {sz : Nat} {T : TypeId} {rows : List (List AV)} (A B : List AV) : VEnt (.row s sz T rows :: h) (.agg (A ++ .v s :: B)) h (.agg (A ++ .list false sz rows :: B)) := by
  refine ⟨fun x hx => by rw [owns_cons]; exact List.mem_append_right _ hx, fun X w v hh hr => ⟨HRel.drop (h := [_]) hh, ?_⟩⟩
  have hf := row_frozen hh
  cases hr with
  | agg _ cs hl hc =>
    refine .agg _ cs (by simpa using hl) fun j h1 h2 => ?_
    have hj : j < (A ++ .v s :: B).length := by simpa using h1
    have hcj := hc j hj h2
    have hkeep : ∀ av u, Rel w (OO (.row s sz T rows :: h) X) av u → Rel w (OO h X) av u := fun av u r => r.keep (Nat.le_refl _) fun b hb _ => ⟨rfl, fun q => hb (by
      rcases q with q | q
      · exact .inl (by rw [owns_cons]; exact List.mem_append_right _ q)
      · exact .inr q)⟩
    by_cases hA : j < A.length
    · rw [List.getElem_append_left hA] at hcj ⊢; exact hkeep _ _ hcj
    · rw [List.getElem_append_right (by omega)] at hcj ⊢
      by_cases h0 : j - A.length = 0
      · simp only [h0, List.getElem_cons_zero] at hcj ⊢
        rw [hcj.v_eq]; exact hf
      · obtain ⟨k, hk⟩ : ∃ k, j - A.length = k + 1 := ⟨j - A.length - 1, by omega⟩
        simp only [hk, List.getElem_cons_succ] at hcj ⊢
        exact hkeep _ _ hcj
/-- A row of one's own, held by a cell, becomes a list that nobody writes. -/
theorem vent_freeze_tup {h : List Res} {s : Value} {sz : Nat} {T : TypeId} {rows : List (List AV)} (A B : List AV) : VEnt (.row s sz T rows :: h) (.tup (A ++ .v s :: B)) h (.tup (A ++ .list false sz rows :: B)) := by
  refine ⟨fun x hx => by rw [owns_cons]; exact List.mem_append_right _ hx, fun X w v hh hr => ⟨HRel.drop (h := [_]) hh, ?_⟩⟩
  have hf := row_frozen hh
  cases hr with
  | tup _ cs hl hc =>
    refine .tup _ cs (by simpa using hl) fun j h1 h2 => ?_
    have hj : j < (A ++ .v s :: B).length := by simpa using h1
    have hcj := hc j hj h2
    have hkeep : ∀ av u, Rel w (OO (.row s sz T rows :: h) X) av u → Rel w (OO h X) av u := fun av u r => r.keep (Nat.le_refl _) fun b hb _ => ⟨rfl, fun q => hb (by
      rcases q with q | q
      · exact .inl (by rw [owns_cons]; exact List.mem_append_right _ q)
      · exact .inr q)⟩
    by_cases hA : j < A.length
    · rw [List.getElem_append_left hA] at hcj ⊢; exact hkeep _ _ hcj
    · rw [List.getElem_append_right (by omega)] at hcj ⊢
      by_cases h0 : j - A.length = 0
      · simp only [h0, List.getElem_cons_zero] at hcj ⊢
        rw [hcj.v_eq]; exact hf
      · obtain ⟨k, hk⟩ : ∃ k, j - A.length = k + 1 := ⟨j - A.length - 1, by omega⟩
        simp only [hk, List.getElem_cons_succ] at hcj ⊢
        exact hkeep _ _ hcj
theorem ACall.ventR {P : Program} {f : FuncId} {args : List AV} {h : List Res} {R R2 : AV → List Res → Prop} (hc : ACall P f args h R) (hv : ∀ r h', R r h' → ∃ r2 h2, VEnt h' r h2 r2 ∧ R2 r2 h2) : ACall P f args h R2 := by
  intro X w vs hh ha
  refine (hc X w vs hh ha).mono ?_
  rintro e w' ⟨u, av, h', e1, hR, hrel, hh', hk⟩
  obtain ⟨r2, h2, ⟨o, q⟩, hR2⟩ := hv _ _ hR
  obtain ⟨q1, q2⟩ := q X w' u hh' hrel
  exact ⟨u, r2, h2, e1, hR2, q2, q1, ⟨hk.size, fun b hb ho => ⟨(hk.same b hb ho).1, fun hm => (hk.same b hb ho).2 (o b hm)⟩, hk.env⟩⟩
theorem FCall.ventR {P : Program} {fv : AV} {args : List AV} {h : List Res} {R R2 : AV → List Res → Prop} (hc : FCall P fv args h R) (hv : ∀ r h', R r h' → ∃ r2 h2, VEnt h' r h2 r2 ∧ R2 r2 h2) : FCall P fv args h R2 := by
  intro X w v vs hh hvv ha
  refine (hc X w v vs hh hvv ha).mono ?_
  rintro e w' ⟨u, av, h', e1, hR, hrel, hh', hk⟩
  obtain ⟨r2, h2, ⟨o, q⟩, hR2⟩ := hv _ _ hR
  obtain ⟨q1, q2⟩ := q X w' u hh' hrel
  exact ⟨u, r2, h2, e1, hR2, q2, q1, ⟨hk.size, fun b hb ho => ⟨(hk.same b hb ho).1, fun hm => (hk.same b hb ho).2 (o b hm)⟩, hk.env⟩⟩
theorem FCall.ventE {P : Program} {fv : AV} {args : List AV} {h : List Res} {R : AV → List Res → Prop} (hc : FCall P fv args h (fun r h' => ∃ r2 h2, VEnt h' r h2 r2 ∧ R r2 h2)) : FCall P fv args h R := hc.ventR fun _ _ q => q
theorem ACall.ventE {P : Program} {f : FuncId} {args : List AV} {h : List Res} {R : AV → List Res → Prop} (hc : ACall P f args h (fun r h' => ∃ r2 h2, VEnt h' r h2 r2 ∧ R r2 h2)) : ACall P f args h R := hc.ventR fun _ _ q => q
theorem vent_drops (B : List (List Res)) (L : List Res) (a : AV) : VEnt (pcs B L) a L a := by rw [pcs_out]; exact .drop _ _ _
end Go.Ab
/- The abstract logic, part 24: rows lent to calls, rows frozen with what they hold. Conditions: none (lemmas over any program). -/
set_option linter.unusedVariables false
namespace Go.Ab
open Go
/-- What says nothing of memory. -/
inductive Scal : AV → Prop where
  | any : Scal .any
  | v (x : Value) : Scal (.v x)
  | tup (vs : List AV) : (∀ j (h : j < vs.length), Scal vs[j]) → Scal (.tup vs)
  | fn (f : Fn) : Scal (.fn f [] [])
theorem Scal.rel {a : AV} (s : Scal a) : ∀ {w w' : World} {O O' : Nat → Prop} {v : Value}, Rel w O a v → Rel w' O' a v := by
  induction s with
  | any => intro w w' O O' v r; exact .any _
  | v x => intro w w' O O' v r; rw [r.v_eq]; exact .v _
  | tup vs _ ih =>
    intro w w' O O' v r
    cases r with
    | tup _ cs h1 h2 => exact .tup _ _ h1 fun j a b => ih j a (h2 j a b)
  | fn f =>
    intro w w' O O' v r
    cases r with
    | fn _ _ _ fa ca h1 h2 h3 h4 => exact .fn _ _ _ _ _ h1 h2 (fun j h => absurd h (Nat.not_lt_zero j)) (fun j h => absurd h (Nat.not_lt_zero j))
def ScalR (x : Res) : Prop := ∀ {w : World} {O O' : Nat → Prop}, x.holds w O → x.holds w O'
theorem scal_box {b : Nat} {T : TypeId} {cells : List AV} (h : ∀ a ∈ cells, Scal a) : ScalR (.box b T cells) := by
  intro w O O' hb
  obtain ⟨c, h1, h2, h3⟩ := hb
  exact ⟨c, h1, h2, fun j a b => (h _ (List.getElem_mem a)).rel (h3 j a b)⟩
theorem scal_row {s : Value} {sz : Nat} {T : TypeId} {rows : List (List AV)} (h : ∀ r ∈ rows, ∀ a ∈ r, Scal a) : ScalR (.row s sz T rows) := by
  intro w O O' hb
  cases s <;> try exact hb.elim
  rename_i a len cap
  cases a with
  | none => exact hb
  | some a =>
    obtain ⟨h1, h2, h3, h4, c, h5, h6, h7⟩ := hb
    refine ⟨h1, h2, h3, h4, c, h5, h6, fun i hi j hj => ?_⟩
    obtain ⟨v, e, r⟩ := h7 i hi j hj
    exact ⟨v, e, (h _ (List.getElem_mem hi) _ (List.getElem_mem hj)).rel r⟩
theorem OO_cons {r : Res} {h : List Res} {X : Nat → Prop} {b : Nat} : OO (r :: h) X b ↔ b ∈ r.own ∨ OO h X b := by
  simp only [OO, owns_cons, List.mem_append]; exact or_assoc
/-- A row lent to a call that reads it aS a list. -/
theorem FCall.lendRow {P : Program} {f : FuncId} {args args' : List AV} {G : List Res} {R : AV → List Res → Prop} {s : Value} {sz : Nat} {T : TypeId} {rows : List (List AV)}
    (ha : ∀ X w vs, HRel X w (.row s sz T rows :: G) → Rels w (OO (.row s sz T rows :: G) X) args vs → Rels w (OO G X) args' vs) (hR : ∀ r h', R r h' → Scal r ∧ ∀ x ∈ h', ScalR x ∨ (x ∈ G ∧ ∃ b T cells, x = .glob b T cells)) (hc : FCall P (.fn (.func f) [] []) args' G R) :
    FCall P (.fn (.func f) [] []) args (.row s sz T rows :: G) (fun r h' => ∃ h'', h' = .row s sz T rows :: h'' ∧ R r h'') := by
  intro X w v vs hh hv hvs
  have hG : HRel X w G := HRel.drop (h := [_]) hh
  have hn := hh.nodup
  rw [owns_cons, List.nodup_append] at hn
  have hlt := fun b (hb : b ∈ (Res.row s sz T rows).own) => hh.lt b (by rw [owns_cons]; exact List.mem_append_left _ hb)
  refine (hc X w v vs hG ((Scal.fn _).rel hv) (ha X w vs hh hvs)).mono ?_
  rintro e w' ⟨u, av, h', e1, hRr, hrel, hh', hk⟩
  have hsame : ∀ b ∈ (Res.row s sz T rows).own, w'.heap[b]? = w.heap[b]? ∧ b ∉ owns h' := fun b hb => hk.same b (hlt b hb).1 (fun q => hn.2.2 b hb b q rfl)
  have hkk : ∀ b, ¬ OO (.row s sz T rows :: G) X b → b < w.heap.size → w'.heap[b]? = w.heap[b]? ∧ ¬ OO (.row s sz T rows :: h') X b := fun b hb hl => by
    rw [OO_cons, not_or] at hb
    have := hk.oo (X := X) b hb.2 hl
    exact ⟨this.1, fun q => (OO_cons.1 q).elim hb.1 this.2⟩
  have hrow := hh.holds _ (List.mem_cons_self)
  have hh2 : HRel X w' (.row s sz T rows :: h') := by
    refine ⟨?_, fun b hb => ?_, hh'.xlt, fun r hr => ?_⟩
    · rw [owns_cons, List.nodup_append]
      exact ⟨hn.1, hh'.nodup, fun x hx y hy q => (hsame x hx).2 (q ▸ hy)⟩
    · rw [owns_cons, List.mem_append] at hb
      rcases hb with hb | hb
      · have := hlt b hb; exact ⟨Nat.lt_of_lt_of_le this.1 hk.size, this.2⟩
      · exact hh'.lt b hb
    · rcases List.mem_cons.1 hr with rfl | hr
      · exact Res.holds_keep hk.size hkk (fun b hb => (hsame b hb).1) hrow
      · have h0 := hh'.holds r hr
        rcases (hR _ _ hRr).2 r hr with q | ⟨q, b0, T0, c0, rfl⟩
        · exact q h0
        · exact Res.holds_keep hk.size hkk (fun b hb => by simp [Res.own] at hb) (hh.holds _ (List.mem_cons_of_mem _ q))
  refine ⟨u, av, _, e1, ⟨_, rfl, hRr⟩, (hR _ _ hRr).1.rel hrel, hh2, ⟨hk.size, fun b hb ho => ?_, hk.env⟩⟩
  rw [owns_cons, List.mem_append, not_or] at ho
  have := hk.same b hb ho.2
  exact ⟨this.1, by rw [owns_cons, List.mem_append, not_or]; exact ⟨ho.1, this.2⟩⟩
/-- What is lent: a cell that holds a row reads aS a list. -/
theorem lend_cell {X : Nat → Prop} {w : World} {G : List Res} {s : Value} {sz : Nat} {T : TypeId} {rows : List (List AV)} {A B : List AV} {v : Value} (hh : HRel X w (.row s sz T rows :: G)) (hr : Rel w (OO (.row s sz T rows :: G) X) (.agg (A ++ .v s :: B)) v) :
    Rel w (OO G X) (.agg (A ++ .list false sz rows :: B)) v := ((vent_freeze_cell A B).2 X w v hh hr).2
/-- A box's cell that holds a row: the row given up. -/
theorem ent_freeze_box {nt : Nat} {t : Fr} {h : List Res} {ds : List Nat} {s : Value} {sz : Nat} {T TB : TypeId} {rows : List (List AV)} {b : Nat} (A B : List AV) :
    Ent nt ⟨t, .row s sz T rows :: .box b TB (A ++ .v s :: B) :: h, ds⟩ ⟨t, .box b TB (A ++ .list false sz rows :: B) :: h, ds⟩ := by
  refine ⟨fun x hx => ?_, fun X a w hs => ?_⟩
  · simp only [owns_cons, List.mem_append] at hx ⊢
    exact .inr hx
  have hO : ∀ b', OO (.box b TB (A ++ .list false sz rows :: B) :: h) X b' ↔ OO (.box b TB (A ++ .v s :: B) :: h) X b' := fun b' => by simp [OO, owns_cons, Res.own]
  have hO' : OO (.box b TB (A ++ .list false sz rows :: B) :: h) X = OO (.box b TB (A ++ .v s :: B) :: h) X := by funext b'; exact propext (hO b')
  have hd := HRel.drop (h := [_]) hs.heap
  have hf := row_frozen hs.heap
  have hkeep : ∀ av u, Rel w (OO (.row s sz T rows :: .box b TB (A ++ .v s :: B) :: h) X) av u → Rel w (OO (.box b TB (A ++ .v s :: B) :: h) X) av u := fun av u r => r.keep (Nat.le_refl _) fun b hb _ => ⟨rfl, fun q => hb (OO_cons.2 (.inr q))⟩
  refine ⟨⟨by simpa [owns_cons, Res.own] using hd.nodup, fun b' hb' => hd.lt b' (by simpa [owns_cons, Res.own] using hb'), hd.xlt, fun r hr => ?_⟩, hs.size, fun i av e => ?_, hs.defs⟩
  · rw [hO']
    rcases List.mem_cons.1 hr with rfl | hr
    · obtain ⟨c, h1, h2, h3⟩ := hd.holds _ (List.mem_cons_self)
      refine ⟨c, h1, by simpa using h2, fun j j1 j2 => ?_⟩
      have hj : j < (A ++ .v s :: B).length := by simpa using j1
      have hcj := h3 j hj j2
      by_cases hA : j < A.length
      · rw [List.getElem_append_left hA] at hcj ⊢; exact hcj
      · rw [List.getElem_append_right (by omega)] at hcj ⊢
        by_cases h0 : j - A.length = 0
        · simp only [h0, List.getElem_cons_zero] at hcj ⊢
          rw [hcj.v_eq]; exact hf
        · obtain ⟨k, hk⟩ : ∃ k, j - A.length = k + 1 := ⟨j - A.length - 1, by omega⟩
          simp only [hk, List.getElem_cons_succ] at hcj ⊢
          exact hcj
    · exact hd.holds r (List.mem_cons_of_mem _ hr)
  · obtain ⟨u, e1, r⟩ := hs.fr i av e
    refine ⟨u, e1, ?_⟩
    show Rel w (OO (.box b TB (A ++ .list false sz rows :: B) :: h) X) av u
    rw [hO']; exact hkeep _ _ r
/-- Rows of which less is known. -/
theorem vent_row_sb {h : List Res} {s : Value} {sz : Nat} {T : TypeId} {rows rows' : List (List AV)} (hs : Sbr rows rows') (a : AV) : VEnt (.row s sz T rows :: h) a (.row s sz T rows' :: h) a := by
  have ho : owns (.row s sz T rows' :: h) = owns (.row s sz T rows :: h) := by
    rw [owns_cons, owns_cons]; congr 1
    cases s <;> try rfl
    rename_i a _ _
    cases a <;> rfl
  have hO : ∀ X, OO (.row s sz T rows' :: h) X = OO (.row s sz T rows :: h) X := fun X => by unfold OO; rw [ho]
  refine ⟨fun x hx => by rw [← ho]; exact hx, fun X w v hh hr => ⟨⟨by rw [ho]; exact hh.nodup, fun b hb => hh.lt b (by rw [← ho]; exact hb), hh.xlt, fun r hr' => ?_⟩, by rw [hO]; exact hr⟩⟩
  rw [hO]
  rcases List.mem_cons.1 hr' with rfl | hr'
  · have hx := hh.holds _ (List.mem_cons_self)
    cases s <;> try exact hx.elim
    rename_i a len cap
    have hl := hs.len
    cases a with
    | none =>
      obtain ⟨rfl, h2⟩ := hx
      exact ⟨List.eq_nil_of_length_eq_zero (by simpa using hl.symm), h2⟩
    | some a =>
      obtain ⟨h1, h2, h3, h4, c, h5, h6, h7⟩ := hx
      refine ⟨h1, by omega, h3, fun i hi => ?_, c, h5, h6, fun i hi j hj => ?_⟩
      · have := (hs.get i (by omega) hi).len
        rw [← this]; exact h4 i (by omega)
      · have hq := hs.get i (by omega) hi
        have hj' : j < (rows[i]'(by omega)).length := by rw [hq.len]; exact hj
        obtain ⟨v, e, r⟩ := h7 i (by omega) j hj'
        exact ⟨v, e, (hq.get j hj' hj).rel r⟩
  · exact hh.holds r (List.mem_cons_of_mem _ hr')
/-- A row's name, and what its cells say elsewhere: a list. -/
theorem row_list_of {H : List Res} {X : Nat → Prop} {w : World} {s : Value} {sz : Nat} {T : TypeId} {rows rows' : List (List AV)} {O' : Nat → Prop} (hh : HRel X w H) (hm : .row s sz T rows ∈ H) (hO : ∀ b ∈ (Res.row s sz T rows).own, ¬ O' b) (hl : rows'.length = rows.length)
    (hl2 : ∀ i (h : i < rows.length) (h' : i < rows'.length), rows'[i].length = rows[i].length)
    (hc : ∀ i (h : i < rows.length) (h' : i < rows'.length) j (k : j < rows[i].length) (k' : j < rows'[i].length) u, Rel w (OO H X) rows[i][j] u → Rel w O' rows'[i][j] u) : Rel w O' (.list false sz rows') s := by
  have hx := hh.holds _ hm
  cases s <;> try exact hx.elim
  rename_i a len cap
  cases a with
  | none =>
    obtain ⟨rfl, rfl, rfl⟩ := hx
    obtain rfl : rows' = [] := List.eq_nil_of_length_eq_zero (by simpa using hl)
    exact .lnil _ _ _ _ (by simp)
  | some a =>
    obtain ⟨h1, h2, h3, h4, c, h5, h6, h7⟩ := hx
    obtain ⟨b, off, spot⟩ := a
    simp only at h1; subst h1; subst h2
    have hb := hh.lt b (mem_owns.2 ⟨_, hm, by simp [Res.own]⟩)
    rw [← hl]
    refine .list _ _ _ b off cap (fun i j => c[off + i * sz + j]?.getD undef) (by simp) (by omega) (hO b (by simp [Res.own])) hb.1 (fun i hi => by rw [hl2 i (by omega) hi]; exact h4 i (by omega)) (fun i hi j hj => ?_) fun i hi j hj => ?_
    · obtain ⟨v, e, _⟩ := h7 i (by omega) j (by rw [← hl2 i (by omega) hi]; exact hj)
      simp only at e h5
      simp [World.cell?, h5, e]
    · obtain ⟨v, e, r⟩ := h7 i (by omega) j (by rw [← hl2 i (by omega) hi]; exact hj)
      simp only at e
      rw [e]; exact hc i (by omega) hi j (by rw [← hl2 i (by omega) hi]; exact hj) hj v r
section
variable {P : Program} {h : List Res} {f : Operand → Option AV} {dst : Option Tmp} {ty : TypeId} {pos : String} {after : Array Edge} {guard : Option (Nat × Bool)} {x y : Operand}
theorem qr_minN {tys : Array TypeId} {k k' : IntKind} (a b : Nat) (hx : f x = some (.v (.int k a))) (hy : f y = some (.v (.int k' b))) :
    QR P h f ⟨dst, .call ⟨.builtin .min, [x, y].toArray, tys⟩, ty, pos, after, guard⟩ (.v (.int k ((min a b : Nat) : Int))) := by
  have := qr_min2 (P := P) (h := h) (tys := tys) (dst := dst) (ty := ty) (pos := pos) (after := after) (guard := guard) hx hy
  rw [show ((min a b : Nat) : Int) = min (a : Int) (b : Int) from by omega]; exact this
theorem qr_slice_hE {T E : TypeId} {full : Bool} {sz k : Nat} {rows rows' : List (List AV)} (hx : f x = some (.list full sz rows)) (hy : f y = some (.v (.int .i64 k))) (hk : k ≤ rows.length) (he : rows.take k = rows')
    [Und P T (.slice E)] [Siz P E sz] : QR P h f ⟨dst, .slice T x none (some y) none, ty, pos, after, guard⟩ (.list false sz rows') := by
  subst he; exact qr_slice_h hx hy hk
end
theorem qr_entryE {P : Program} {h : List Res} {f : Operand → Option AV} {dst : Option Tmp} {ty : TypeId} {pos : String} {after : Array Edge} {guard : Option (Nat × Bool)} {x : Operand} {r b i : Nat} {es : List (Value × AV)} {seen : List Nat} {k : Value} {a : AV} (hi : i < es.length) (hk : es[i].1 = k) (ha : es[i].2 = a) (hx : f x = some (.v (.pointer (some ⟨b, 0, none⟩)))) :
    QR P (.mapr r es b (i :: seen) :: h) f ⟨dst, .entry x, ty, pos, after, guard⟩ (.tup [.v k, a]) := by
  subst hk ha; exact qr_entry hx hi
end Go.Ab
/- The abstract logic, part 26: whole stretches of code gone through at once. Conditions: none (lemmas over any program). -/
set_option linter.unusedVariables false
set_option linter.unusedSimpArgs false
namespace Go.Ab
open Go
section
variable {P : Program} {h : List Res} {f : Operand → Option AV} {dst : Option Tmp} {ty T T' : TypeId} {pos : String} {after : Array Edge} {g : Option (Nat × Bool)} {x y z : Operand} {av : AV}
/-! By kinds. -/
theorem g_move (q : QR P h f ⟨dst, .move x, ty, pos, after, g⟩ av) : QR P h f ⟨dst, .move x, ty, pos, after, g⟩ av := q
theorem g_assign (q : QR P h f ⟨dst, .assign x, ty, pos, after, g⟩ av) : QR P h f ⟨dst, .assign x, ty, pos, after, g⟩ av := q
theorem g_pick (q : QR P h f ⟨dst, .pick x y z, ty, pos, after, g⟩ av) : QR P h f ⟨dst, .pick x y z, ty, pos, after, g⟩ av := q
theorem g_bin {op : BinOp} (q : QR P h f ⟨dst, .binOp op T x y T', ty, pos, after, g⟩ av) : QR P h f ⟨dst, .binOp op T x y T', ty, pos, after, g⟩ av := q
theorem g_un {op : UnOp} (q : QR P h f ⟨dst, .unOp op T x, ty, pos, after, g⟩ av) : QR P h f ⟨dst, .unOp op T x, ty, pos, after, g⟩ av := q
theorem g_fieldAddr {k : Nat} (q : QR P h f ⟨dst, .fieldAddr T x k, ty, pos, after, g⟩ av) : QR P h f ⟨dst, .fieldAddr T x k, ty, pos, after, g⟩ av := q
theorem g_field {k : Nat} (q : QR P h f ⟨dst, .field T x k, ty, pos, after, g⟩ av) : QR P h f ⟨dst, .field T x k, ty, pos, after, g⟩ av := q
theorem g_load (q : QR P h f ⟨dst, .load T x, ty, pos, after, g⟩ av) : QR P h f ⟨dst, .load T x, ty, pos, after, g⟩ av := q
theorem g_nilCheck (q : QR P h f ⟨dst, .nilCheck x, ty, pos, after, g⟩ av) : QR P h f ⟨dst, .nilCheck x, ty, pos, after, g⟩ av := q
theorem g_indexAddr (q : QR P h f ⟨dst, .indexAddr T x y, ty, pos, after, g⟩ av) : QR P h f ⟨dst, .indexAddr T x y, ty, pos, after, g⟩ av := q
theorem g_index (q : QR P h f ⟨dst, .index T x y, ty, pos, after, g⟩ av) : QR P h f ⟨dst, .index T x y, ty, pos, after, g⟩ av := q
theorem g_bui {b : Builtin} {aS : Array Operand} {ts : Array TypeId} (q : QR P h f ⟨dst, .call ⟨.builtin b, aS, ts⟩, ty, pos, after, g⟩ av) : QR P h f ⟨dst, .call ⟨.builtin b, aS, ts⟩, ty, pos, after, g⟩ av := q
theorem g_slice {a b c : Option Operand} (q : QR P h f ⟨dst, .slice T x a b c, ty, pos, after, g⟩ av) : QR P h f ⟨dst, .slice T x a b c, ty, pos, after, g⟩ av := q
theorem g_extract {k : Nat} (q : QR P h f ⟨dst, .extract x k, ty, pos, after, g⟩ av) : QR P h f ⟨dst, .extract x k, ty, pos, after, g⟩ av := q
theorem g_lookup {b : Bool} (q : QR P h f ⟨dst, .lookup T x y b, ty, pos, after, g⟩ av) : QR P h f ⟨dst, .lookup T x y b, ty, pos, after, g⟩ av := q
def bitsOk (op : BinOp) (k : IntKind) : Bool := match op, k with
  | .add, .i64 => false
  | .sub, .i64 => false
  | .mul, .i64 => false
  | _, _ => true
theorem qr_bitsN {op : BinOp} {k : IntKind} {a b c : Int} (hx : f x = some (.v (.int k a))) (hy : f y = some (.v (.int k b))) (hk : bitsOk op k = true) (hc : bitsI op k a b = some c) :
    QR P h f ⟨dst, .binOp op T x y T', ty, pos, after, g⟩ (.v (.int k c)) := qr_bits hx hy hc
end
/-- A plain operation, by the rule that fits. -/
theorem qrA {P : Program} {h : List Res} {f : Operand → Option AV} {o : Oper} {av : AV} (hq : QR P h f o av := by
    first
    | (apply g_move; exact qr_move rfl)
    | (apply g_bin; first
      | exact qr_cmp rfl rfl rfl
      | exact qr_ari rfl rfl rfl (by omega)
      | exact qr_shift rfl rfl rfl (by decide)
      | exact qr_bitsN rfl rfl rfl rfl
      | exact qr_eqstr rfl rfl
      | exact qr_nestr rfl rfl
      | exact qr_eqbool rfl rfl rfl
      | exact qr_nebool rfl rfl
      | exact qr_eqagg rfl rfl rfl rfl
      | exact qr_neagg rfl rfl rfl rfl)
    | (apply g_load; first
      | exact qr_load_one rfl rfl
      | exact qr_load_pp_one rfl rfl
      | exact qr_load_rp_one rfl (by assumption) rfl
      | exact qr_load_all rfl rfl
      | exact qr_load_pp_all rfl rfl
      | exact qr_load_agg rfl (Nat.le_of_ble_eq_true rfl)
      | exact qr_load_pp_agg rfl (Nat.le_of_ble_eq_true rfl)
      | exact qr_load_rp_all rfl (by assumption) rfl)
    | (apply g_fieldAddr; first
      | exact qr_fieldAddr rfl (Nat.succ_ne_zero _)
      | exact qr_fieldAddr_pp rfl (Nat.succ_ne_zero _)
      | exact qr_fieldAddr_rp rfl (Nat.succ_ne_zero _)
      | exact qr_fieldAddr_row rfl (Nat.succ_ne_zero _))
    | (apply g_pick; first
      | exact qr_pick_t rfl rfl
      | exact qr_pick_f rfl rfl
      | exact qr_pick_b rfl rfl rfl)
    | (apply g_assign; exact qr_assign rfl)
    | (apply g_indexAddr; first
      | exact qr_index_list rfl rfl (by assumption)
      | exact qr_index_row rfl rfl (by assumption)
      | exact qr_indexAddr_arr rfl rfl (by omega))
    | (apply g_bui; first
      | exact qr_len_list rfl
      | exact qr_len_row rfl
      | exact qr_len_string rfl
      | exact qr_min2 rfl rfl
      | exact qr_max2 rfl rfl
      | exact qr_max3 rfl rfl rfl)
    | (apply g_field; first
      | exact qr_field_one rfl rfl
      | exact qr_field_agg rfl (Nat.le_of_ble_eq_true rfl))
    | (apply g_nilCheck; first
      | exact qr_nilCheck rfl
      | exact qr_nilCheck_pp rfl
      | exact qr_nilCheck_rp rfl)
    | (apply g_un; exact qr_not rfl)
    | (apply g_extract; exact qr_extract rfl rfl)
    | (apply g_slice; first
      | exact qr_slice_string_h rfl rfl (by omega)
      | exact qr_slice_string_l rfl rfl (by omega)
      | exact qr_slice_hm rfl rfl rfl (by omega)
      | exact qr_slice_lh rfl rfl rfl (by omega) (by omega)
      | exact qr_slice_h rfl rfl (by omega)
      | exact qr_slice_l rfl rfl (by omega))
    | (apply g_index; exact qr_index_arr_one rfl rfl (by omega) (by assumption))
    | exact qr_convert rfl rfl
    | exact qr_makeFunc rfl rfl
    | exact qr_build rfl (by rfl)
    | exact qr_buildArr rfl (by rfl)
    | exact qr_entry rfl (by assumption)) : QR P h f o av := hq
section
variable {P : Program} {ro : Option Nat} {nt : Nat} {Q : Exit → St → Prop} {s : St} {c : Operand} {x y : Code}
theorem aw_ct (hc : ev s.t c = some (.v (.bool true))) (h : aw P ro nt x Q s) : aw P ro nt (.cond c x y) Q s := aw_cond hc (fun _ => h) (fun h => by cases h)
theorem aw_cf (hc : ev s.t c = some (.v (.bool false))) (h : aw P ro nt y Q s) : aw P ro nt (.cond c x y) Q s := aw_cond hc (fun h => by cases h) (fun _ => h)
variable {ops : Array Oper} {l : List Oper} {dst : Option Tmp} {T ty : TypeId} {a b : Operand} {pos : String} {after : Array Edge} {g : Option (Nat × Bool)}
theorem a_store (q : aops P ro nt ops (⟨dst, .store T a b, ty, pos, after, g⟩ :: l) Q s) : aops P ro nt ops (⟨dst, .store T a b, ty, pos, after, g⟩ :: l) Q s := q
theorem a_bs {n : Nat} {ps : Array (Nat × Operand)} (q : aops P ro nt ops (⟨dst, .buildSlice T n ps, ty, pos, after, g⟩ :: l) Q s) : aops P ro nt ops (⟨dst, .buildSlice T n ps, ty, pos, after, g⟩ :: l) Q s := q
theorem a_any (q : aops P ro nt ops l Q s) : aops P ro nt ops l Q s := q
theorem a_aw (q : aw P ro nt x Q s) : aw P ro nt x Q s := q
theorem a_thn {e : Exit} {n : St → Prop} (q : thn n Q e s) : thn n Q e s := q
theorem a_blk {e : Exit} {n : Nat} (q : inBlk n Q e s) : inBlk n Q e s := q
theorem a_ds {h : List Res} {S : SB} {sd : List Tmp} {t0 : Fr} {os : List Oper} {e : Fr} {σ : List SI} {K : Fr → List SI → Prop} (q : dsoup P ro nt h S l sd t0 os e σ K) : dsoup P ro nt h S l sd t0 os e σ K := q
theorem a_dm {h : List Res} {dsl : List Nat} {sd : List Tmp} {t0 : Fr} {os : List Oper} {e : Fr} {K : Fr → List (Option CM) → Prop} (q : dsoupM P ro nt h dsl l sd t0 os e K) : dsoupM P ro nt h dsl l sd t0 os e K := q
theorem a_dam {ms : List (Option CM)} {e : Fr} {h : List Res} {K : Fr → List Res → Prop} (q : dallocM l ms e h K) : dallocM l ms e h K := q
theorem a_dal {e : Fr} {h : List Res} {K : Fr → List Res → Prop} (q : dalloc P nt l e h K) : dalloc P nt l e h K := q
theorem q1 {d : Tmp} {op : Op} {t : Fr} {h : List Res} {ds : List Nat} {av : AV} (hk : aops P ro nt ops l Q ⟨(d, av) :: t, h, ds⟩) (hg : gd ops t ⟨some d, op, ty, pos, after, g⟩ = some true := by rfl) (hd : Nat.blt d nt = true := by rfl) (hq : QR P h (ev t) ⟨some d, op, ty, pos, after, g⟩ av := by exact qrA)
    (hn : notDefer ⟨some d, op, ty, pos, after, g⟩ = true := by rfl) : aops P ro nt ops (⟨some d, op, ty, pos, after, g⟩ :: l) Q ⟨t, h, ds⟩ := aops_q hg hd (qv_of_qr hq hn) hk
end
structure Hide (B : Prop) : Prop where
  out : B
/-- As far aS it goes by itself. -/
theorem rn {A B : Prop} (b : B) (hab : Hide B → A := by
    intro hB
    repeat (first
      | (refine a_any ?_; first
        | refine aops_nil ?_
        | refine qq rfl rfl qrA ?_
        | refine qs rfl rfl ?_
        | refine qs0 rfl ?_
        | (refine a_store ?_; first
          | refine aops_e rfl (oe_store_all rfl rfl rfl ?_)
          | refine aops_e rfl (oe_store rfl rfl rfl rfl (Nat.le_of_ble_eq_true rfl) ?_)))
      | (refine a_thn ?_; first
        | refine thn_n ?_
        | refine thn_e ?_
        | refine thn_r ?_)
      | (refine a_aw ?_; first
        | refine aw_seq ?_
        | refine aw_region ?_
        | refine aw_skip ?_
        | refine aw_block ?_
        | refine aw_exit ?_
        | refine aw_ret ?_
        | refine aw_label ?_)
      | (refine a_blk ?_; first
        | refine inBlk_n ?_
        | refine inBlk_r ?_
        | refine inBlk_hit ?_
        | refine inBlk_miss rfl ?_)
      | (refine a_ds ?_; first
        | refine dnil ⟨rfl, ?_⟩
        | refine dq rfl rfl qrA ?_
        | refine ds rfl rfl ?_
        | refine da ?_)
      | (refine a_dal ?_; first
        | refine dalloc_nil ?_
        | refine dalloc_s rfl ?_)
      | (refine a_dm ?_; first
        | refine mq rfl rfl qrA ?_
        | refine ms rfl rfl ?_)
      | (refine a_dam ?_; first
        | refine mal_s ?_
        | refine mal_nil ?_))
    exact hB.out) : A := hab ⟨b⟩
/-- As far aS the next piece of code. -/
theorem rn0 {A B : Prop} (b : B) (hab : Hide B → A := by
    intro hB
    repeat (first
      | (refine a_any ?_; first
        | refine aops_nil ?_
        | refine qq rfl rfl qrA ?_
        | refine qs rfl rfl ?_
        | refine qs0 rfl ?_
        | (refine a_store ?_; first
          | refine aops_e rfl (oe_store_all rfl rfl rfl ?_)
          | refine aops_e rfl (oe_store rfl rfl rfl rfl (Nat.le_of_ble_eq_true rfl) ?_)))
      | (refine a_thn ?_; first
        | refine thn_n ?_
        | refine thn_e ?_
        | refine thn_r ?_)
      | (refine a_blk ?_; first
        | refine inBlk_n ?_
        | refine inBlk_r ?_
        | refine inBlk_hit ?_
        | refine inBlk_miss rfl ?_)
      | (refine a_ds ?_; first
        | refine dnil ⟨rfl, ?_⟩
        | refine dq rfl rfl qrA ?_
        | refine ds rfl rfl ?_
        | refine da ?_)
      | (refine a_dal ?_; first
        | refine dalloc_nil ?_
        | refine dalloc_s rfl ?_)
      | (refine a_dm ?_; first
        | refine mq rfl rfl qrA ?_
        | refine ms rfl rfl ?_)
      | (refine a_dam ?_; first
        | refine mal_s ?_
        | refine mal_nil ?_))
    exact hB.out) : A := hab ⟨b⟩
/-- As far aS the operations go. -/
theorem rn1 {A B : Prop} (b : B) (hab : Hide B → A := by
    intro hB
    repeat (first
      | (refine a_any ?_; first
        | refine qq rfl rfl qrA ?_
        | refine qs rfl rfl ?_
        | refine qs0 rfl ?_
        | (refine a_store ?_; first
          | refine aops_e rfl (oe_store_all rfl rfl rfl ?_)
          | refine aops_e rfl (oe_store rfl rfl rfl rfl (Nat.le_of_ble_eq_true rfl) ?_)))
      | (refine a_ds ?_; first
        | refine dnil ⟨rfl, ?_⟩
        | refine dq rfl rfl qrA ?_
        | refine ds rfl rfl ?_
        | refine da ?_)
      | (refine a_dal ?_; first
        | refine dalloc_nil ?_
        | refine dalloc_s rfl ?_)
      | (refine a_dm ?_; first
        | refine mq rfl rfl qrA ?_
        | refine ms rfl rfl ?_)
      | (refine a_dam ?_; first
        | refine mal_s ?_
        | refine mal_nil ?_))
    exact hB.out) : A := hab ⟨b⟩
/-- As far aS the order is open. -/
theorem rn2 {A B : Prop} (b : B) (hab : Hide B → A := by
    intro hB
    repeat (first
      | (refine a_ds ?_; first
        | refine dnil ⟨rfl, ?_⟩
        | refine dq rfl rfl qrA ?_
        | refine ds rfl rfl ?_
        | refine da ?_)
      | (refine a_dal ?_; first
        | refine dalloc_nil ?_
        | refine dalloc_s rfl ?_)
      | (refine a_dm ?_; first
        | refine mq rfl rfl qrA ?_
        | refine ms rfl rfl ?_)
      | (refine a_dam ?_; first
        | refine mal_s ?_
        | refine mal_nil ?_))
    exact hB.out) : A := hab ⟨b⟩
end Go.Ab
/- The abstract logic, part 27: short words for what ends a piece of a walk. Conditions: none (lemmas over any program). -/
set_option linter.unusedVariables false
namespace Go.Ab
open Go
section
variable {P : Program} {ro : Option Nat} {nt : Nat} {Q : Exit → St → Prop} {t t' : Fr} {h h' : List Res} {ds : List Nat} {c : Code}
theorem es (hs : SubF t t' := by repeat (first | exact .nil | refine .cons _ _ _ rfl ?_)) : Ent nt ⟨t, h, ds⟩ ⟨t', h, ds⟩ := ent_sub hs
theorem ed (n : Nat) (hd : h.drop n = h' := by rfl) (hs : SubF t t' := by repeat (first | exact .nil | refine .cons _ _ _ rfl ?_)) : Ent nt ⟨t, h, ds⟩ ⟨t', h', ds⟩ := by
  subst hd
  refine ent_trans ?_ (ent_sub hs)
  have := ent_drop (nt := nt) (t := t) (h1 := h.take n) (h2 := h.drop n) (ds := ds)
  rwa [List.take_append_drop] at this
theorem vdrop (n : Nat) (a : AV) : VEnt h a (h.drop n) a := by
  have := VEnt.drop (h.take n) (h.drop n) a
  rwa [List.take_append_drop] at this
theorem rq (n : Nat) {rs : List ResultVar} {R : AV → List Res → Prop} {av : List AV} (hR : R (packAV av) (h.drop n)) (hr : RVs P t h rs av := by first | exact .cons _ _ _ _ (.tmp _ _ rfl) .nil | exact .cons _ _ _ _ (.tmp _ _ rfl) (.cons _ _ _ _ (.tmp _ _ rfl) .nil) | exact .cons _ _ _ _ (.tmp _ _ rfl) (.cons _ _ _ _ (.tmp _ _ rfl) (.cons _ _ _ _ (.tmp _ _ rfl) .nil)) | exact .cons _ _ _ _ (.tmp _ _ rfl) (.cons _ _ _ _ (.tmp _ _ rfl) (.cons _ _ _ _ (.tmp _ _ rfl) (.cons _ _ _ _ (.tmp _ _ rfl) .nil)))) : RetQ P rs R .ret ⟨t, h, []⟩ :=
  retq hr (vdrop n _) hR
theorem rqn (n : Nat) {rs : List ResultVar} {R : AV → List Res → Prop} {av : List AV} (hR : R (packAV av) (h.drop n)) (hr : RVs P t h rs av := by first | exact .cons _ _ _ _ (.tmp _ _ rfl) .nil | exact .cons _ _ _ _ (.tmp _ _ rfl) (.cons _ _ _ _ (.tmp _ _ rfl) .nil) | exact .cons _ _ _ _ (.tmp _ _ rfl) (.cons _ _ _ _ (.tmp _ _ rfl) (.cons _ _ _ _ (.tmp _ _ rfl) .nil)) | exact .cons _ _ _ _ (.tmp _ _ rfl) (.cons _ _ _ _ (.tmp _ _ rfl) (.cons _ _ _ _ (.tmp _ _ rfl) (.cons _ _ _ _ (.tmp _ _ rfl) .nil)))) : RetQ P rs R .normal ⟨t, h, []⟩ :=
  retq_n hr (vdrop n _) hR
/-- What a truth is, by what is known of its parts. -/
theorem fin {p : Prop} (hp : p := by first | (simp only [*, Bool.true_and, Bool.false_and, Bool.and_false, Bool.and_true, Bool.true_or, Bool.or_false, Bool.false_or, Bool.or_true, if_true, if_false, Bool.false_eq_true, Bool.not_true, Bool.not_false]; done) | (simp_all; done) | (simp_all <;> omega)) : p := hp
/-- Less is known of the frame, and what was made on top is dropped. -/
theorem eA (hs : Ent nt ⟨t, h, ds⟩ ⟨t', h', ds⟩ := by first | exact ed 0 | exact ed 1 | exact ed 2 | exact ed 3 | exact ed 4 | exact ed 5 | exact ed 6) : Ent nt ⟨t, h, ds⟩ ⟨t', h', ds⟩ := hs
/-- A loop over so many places: v is what varies, c stays; the memory stays. -/
theorem aw_rng (n : Nat) (p : Nat → Prop) (v : Nat → Fr) (cs : Fr) (hp : p 0)
    (round : ∀ k, k ≤ n → p k → aw P ro nt c (thn (fun s' => k < n ∧ p (k + 1) ∧ Ent nt s' ⟨v (k + 1) ++ cs, h, ds⟩) Q) ⟨v k ++ cs, h, ds⟩)
    (hs : SubF t (v 0 ++ cs) := by repeat (first | exact .nil | refine .cons _ _ _ rfl ?_)) : aw P ro nt (.loop c) Q ⟨t, h, ds⟩ :=
  aw_loop' (fun k => k ≤ n ∧ p k) (fun k => ⟨v k ++ cs, h, ds⟩) (fun k => n - k) 0 ⟨Nat.zero_le _, hp⟩ (ent_sub hs) fun k hk => aw_mono (fun e s' hq => by
    cases e with
    | normal => exact ⟨k + 1, ⟨hq.1, hq.2.1⟩, hq.2.2, by have := hq.1; omega⟩
    | _ => exact hq) (round k hk.1 hk.2)
/-- A loop over so many places. -/
theorem aw_range (n : Nat) (p : Nat → Prop) (inv : Nat → St) (hp : p 0) (h0 : Ent nt ⟨t, h, ds⟩ (inv 0))
    (round : ∀ k, k ≤ n → p k → aw P ro nt c (thn (fun s' => k < n ∧ p (k + 1) ∧ Ent nt s' (inv (k + 1))) Q) (inv k)) : aw P ro nt (.loop c) Q ⟨t, h, ds⟩ :=
  aw_loop' (fun k => k ≤ n ∧ p k) inv (fun k => n - k) 0 ⟨Nat.zero_le _, hp⟩ h0 fun k hk => aw_mono (fun e s' hq => by
    cases e with
    | normal => exact ⟨k + 1, ⟨hq.1, hq.2.1⟩, hq.2.2, by have := hq.1; omega⟩
    | _ => exact hq) (round k hk.1 hk.2)
/-- A loop over so many places, in which a slice changes. -/
theorem aw_rng1 (n : Nat) (inv : Nat → SV → St) (a : SV) (h0 : Ent nt ⟨t, h, ds⟩ (inv 0 a))
    (round : ∀ k a, k ≤ n → aw P ro nt c (thn (fun s' => k < n ∧ ∃ a, Ent nt s' (inv (k + 1) a)) Q) (inv k a)) : aw P ro nt (.loop c) Q ⟨t, h, ds⟩ :=
  aw_loop' (fun x : Nat × SV => x.1 ≤ n) (fun x => inv x.1 x.2) (fun x => n - x.1) (0, a) (Nat.zero_le _) h0 fun x hx => aw_mono (fun e s' hq => by
    cases e with
    | normal =>
      obtain ⟨h1, a', h2⟩ := hq
      exact ⟨(x.1 + 1, a'), h1, h2, by simp only; omega⟩
    | _ => exact hq) (round x.1 x.2 hx)
/-- A loop over so many places, in which four slices change. -/
theorem aw_rng4 (n : Nat) (inv : Nat → SV → SV → SV → SV → St) (a b e f : SV) (h0 : Ent nt ⟨t, h, ds⟩ (inv 0 a b e f))
    (round : ∀ k a b e f, k ≤ n → aw P ro nt c (thn (fun s' => k < n ∧ ∃ a b e f, Ent nt s' (inv (k + 1) a b e f)) Q) (inv k a b e f)) : aw P ro nt (.loop c) Q ⟨t, h, ds⟩ :=
  aw_loop' (fun x : Nat × SV × SV × SV × SV => x.1 ≤ n) (fun x => inv x.1 x.2.1 x.2.2.1 x.2.2.2.1 x.2.2.2.2) (fun x => n - x.1) (0, a, b, e, f) (Nat.zero_le _) h0 fun x hx => aw_mono (fun e s' hq => by
    cases e with
    | normal =>
      obtain ⟨h1, a', b', e', f', h2⟩ := hq
      exact ⟨(x.1 + 1, a', b', e', f'), h1, h2, by simp only; omega⟩
    | _ => exact hq) (round x.1 x.2.1 x.2.2.1 x.2.2.2.1 x.2.2.2.2 hx)
theorem aw_cut4 {x y : Code} {s : St} (m : SV → SV → SV → SV → St) (hh : aw P ro nt x (thn (fun s' => ∃ a b e f, Ent nt s' (m a b e f)) Q) s) (k : ∀ a b e f, aw P ro nt y Q (m a b e f)) : aw P ro nt (.seq x y) Q s :=
  aw_cutE (fun _ : SV × SV × SV × SV => True) (fun x => m x.1 x.2.1 x.2.2.1 x.2.2.2) (aw_mono (fun e s' hq => by
    cases e with
    | normal => obtain ⟨a, b, e, f, h2⟩ := hq; exact ⟨(a, b, e, f), trivial, h2⟩
    | _ => exact hq) hh) fun x _ => k x.1 x.2.1 x.2.2.1 x.2.2.2
/-- A loop that goes on while a number of steps is left. -/
theorem aw_while {σ : Type} (p : σ → Prop) (inv : σ → St) (μ : σ → Nat) (x0 : σ) (hp : p x0) (h0 : Ent nt ⟨t, h, ds⟩ (inv x0))
    (round : ∀ x, p x → aw P ro nt c (thn (fun s' => ∃ x', p x' ∧ Ent nt s' (inv x') ∧ μ x' < μ x) Q) (inv x)) : aw P ro nt (.loop c) Q ⟨t, h, ds⟩ :=
  aw_loop' p inv μ x0 hp h0 round
end
/-- A call that is lent one row of ours, and gives it back. -/
theorem fcall_row {P : Program} {fv : AV} {args : List AV} {s : Value} {i sz : Nat} {T : TypeId} {rows rows' : List (List AV)} {h : List Res} {h' : Res → List Res} [hr : HasRow h s i sz T rows] [hset : ∀ y, SetAt h i y (h' y)]
    (hc : FCall P fv args [.row s sz T rows] (fun r h2 => ∃ s' : SV, h2 = [.row s'.v sz T rows'] ∧ r = .v s'.v)) : FCall P fv args h (fun r h2 => ∃ s' : SV, h2 = h' (.row s'.v sz T rows') ∧ r = .v s'.v) := by
  have hi : i < h.length := (List.getElem?_eq_some_iff.1 hr.h).1
  have hp := get_perm hr.h
  refine (FCall.perm hp (FCall.permR ((FCall.frame (h.eraseIdx i) hc).mono ?_)))
  rintro av h2 ⟨h1', rfl, s', rfl, rfl⟩
  refine ⟨h' (.row s'.v sz T rows'), ?_, s', rfl, rfl⟩
  rw [← (hset (.row s'.v sz T rows')).h]
  exact (set_perm hi).symm
/-- A call that is lent one row of ours, and gives it back in its place. -/
theorem fcall_row0 {P : Program} {fv r0 : AV} {args : List AV} {s : Value} {i sz : Nat} {T : TypeId} {rows rows' : List (List AV)} {h : List Res} {h' : Res → List Res} [hr : HasRow h s i sz T rows] [hset : ∀ y, SetAt h i y (h' y)]
    (hc : FCall P fv args [.row s sz T rows] (fun r h2 => h2 = [.row s sz T rows'] ∧ r = r0)) : FCall P fv args h (fun r h2 => h2 = h' (.row s sz T rows') ∧ r = r0) := by
  have hi : i < h.length := (List.getElem?_eq_some_iff.1 hr.h).1
  have hp := get_perm hr.h
  refine (FCall.perm hp (FCall.permR ((FCall.frame (h.eraseIdx i) hc).mono ?_)))
  rintro av h2 ⟨h1', rfl, rfl, rfl⟩
  refine ⟨h' (.row s sz T rows'), ?_, rfl, rfl⟩
  rw [← (hset (.row s sz T rows')).h]
  exact (set_perm hi).symm
section
variable {P : Program} {h : List Res} {f : Operand → Option AV} {dst : Option Tmp} {ty : TypeId} {pos : String} {after : Array Edge} {g : Option (Nat × Bool)} {x y : Operand}
theorem qr_index_int {T E : TypeId} {full : Bool} {sz : Nat} {i : Int} {rows : List (List AV)} {row : List AV} (hx : f x = some (.list full sz rows)) (hy : f y = some (.v (.int .i64 i))) [Und P T (.slice E)] [Siz P E sz] (h0 : 0 ≤ i)
    (hi : rows[i.toNat]? = some row) : QR P h f ⟨dst, .indexAddr T x y, ty, pos, after, g⟩ (.pp row) := qr_index_list (i := i.toNat) hx (by rw [Int.toNat_of_nonneg h0]; exact hy) hi
end
/-- What is looked at in a loop over a row. -/
theorem atRow {A : Type} {f : A → List AV} {l : List A} {k : Nat} (hk : k < l.length) : (l.map f)[k]? = some (f l[k]) := by simp [hk]
theorem ltMap {A B : Type} {f : A → B} {l : List A} {k : Nat} (h : decide ((k : Int) < ((l.map f).length : Nat)) = true) : k < l.length := by simpa using h
theorem geMap {A B : Type} {f : A → B} {l : List A} {k : Nat} (h : decide ((k : Int) < ((l.map f).length : Nat)) = false) (hk : k ≤ l.length) : k = l.length := by
  have : l.length ≤ k := by simpa using h
  omega
theorem allT {A : Type} {q : A → Bool} {l : List A} {k : Nat} (hk : k < l.length) (hz : l.all q = (l.drop k).all q) (hq : q l[k] = true) : l.all q = (l.drop (k + 1)).all q := by
  rw [hz, List.drop_eq_getElem_cons hk, List.all_cons, hq, Bool.true_and]
theorem allF {A : Type} {q : A → Bool} {l : List A} {k : Nat} (hk : k < l.length) (hq : q l[k] = false) : l.all q = false := by
  cases h : l.all q with
  | false => rfl
  | true => rw [List.all_eq_true] at h; rw [h _ (List.getElem_mem hk)] at hq; cases hq
theorem allE {A : Type} {q : A → Bool} {l : List A} {k : Nat} (hk : k = l.length) (hz : l.all q = (l.drop k).all q) : l.all q = true := by
  rw [hz, hk, List.drop_length]; rfl
end Go.Ab
/- Histories aS plain data, and how they stand aS abstract values. Conditions: none (definitions, and lemmas over lists). -/
set_option linter.unusedVariables false
namespace Go.H
open Go Go.Ab
abbrev iv (n : Int) : AV := .v (.int .i64 n)
abbrev bv (b : Bool) : AV := .v (.bool b)
abbrev sv (s : ByteArray) : AV := .v (.string s)
structure Ver where
  t : Int
  k : Int
  deriving DecidableEq
structure Seen where
  o : Int
  v : Ver
  deriving DecidableEq
structure Ev where
  kind : Int
  t : Int
  s : Int
  l : Int
  o : Int
  v : Ver
  p : Int
  scan : List Seen
  deriving DecidableEq
structure Ord where
  o : Int
  ts : List Int
  deriving DecidableEq
structure Mat where
  p : Int
  o : Int
  first : Bool
  ts : List Int
  deriving DecidableEq
structure Wan where
  s : Int
  bits : Int
  deriving DecidableEq
structure Hist where
  ts : List ByteArray
  ss : List ByteArray
  os : List ByteArray
  ps : List ByteArray
  evs : List Ev
  ords : List Ord
  mats : List Mat
  wants : List Wan
def intR (n : Int) : List AV := [iv n]
def strR (s : ByteArray) : List AV := [sv s]
def verR (v : Ver) : List AV := [iv v.t, iv v.k]
def seenR (s : Seen) : List AV := [iv s.o, iv s.v.t, iv s.v.k]
def intsA (l : List Int) : AV := .list false 1 (l.map intR)
def strsA (l : List ByteArray) : AV := .list false 1 (l.map strR)
def seensA (l : List Seen) : AV := .list false 3 (l.map seenR)
def evR (e : Ev) : List AV := [iv e.kind, iv e.t, iv e.s, iv e.l, iv e.o, iv e.v.t, iv e.v.k, iv e.p, seensA e.scan]
def ordR (o : Ord) : List AV := [iv o.o, intsA o.ts]
def matR (m : Mat) : List AV := [iv m.p, iv m.o, bv m.first, intsA m.ts]
def wanR (w : Wan) : List AV := [iv w.s, iv w.bits]
def evsA (l : List Ev) : AV := .list false 9 (l.map evR)
def ordsA (l : List Ord) : AV := .list false 2 (l.map ordR)
def matsA (l : List Mat) : AV := .list false 4 (l.map matR)
def wansA (l : List Wan) : AV := .list false 2 (l.map wanR)
def histC (h : Hist) : List AV := [strsA h.ts, strsA h.ss, strsA h.os, strsA h.ps, evsA h.evs, ordsA h.ords, matsA h.mats, wansA h.wants]
def namesC (h : Hist) : List AV := [strsA h.ts, strsA h.ss, strsA h.os, strsA h.ps]
/-- The most that a list may be long. -/
abbrev big : Nat := 4611686018427387904
def fidx {α : Type} (p : α → Bool) (i : Nat) : List α → Int
  | [] => -1
  | x :: r => if p x then i else fidx p (i + 1) r
theorem fidx_ge {α : Type} (p : α → Bool) : ∀ (l : List α) (i : Nat), decide (fidx p i l ≥ 0) = l.any p
  | [], i => by simp [fidx]
  | x :: r, i => by
    simp only [fidx, List.any_cons]
    split
    · rename_i h; simp [h]
    · rename_i h; simp [h, fidx_ge p r (i + 1)]
theorem any_not {α : Type} (p : α → Bool) : ∀ (l : List α), (!l.any fun a => !p a) = l.all p
  | [] => rfl
  | x :: r => by
    have := any_not p r
    simp only [List.any_cons, List.all_cons, Bool.not_or, Bool.not_not, this]
def zall {α β : Type} (p : α → β → Bool) : List α → List β → Bool
  | x :: xs, y :: ys => p x y && zall p xs ys
  | _, _ => true
theorem zall_nil {α β : Type} (p : α → β → Bool) (m : List β) : zall p [] m = true := by cases m <;> rfl
def eqF {α β : Type} (p : α → β → Bool) (l : List α) (m : List β) : Bool := l.length == m.length && zall p l m
def intEq (a b : Int) : Bool := a == b
def strEq (a b : ByteArray) : Bool := a.toList == b.toList
def seenEq (a b : Seen) : Bool := [a.o, a.v.t, a.v.k] == [b.o, b.v.t, b.v.k]
def wanEq (a b : Wan) : Bool := [a.s, a.bits] == [b.s, b.bits]
theorem not_t {b : Bool} (h : (!b) = true) : b = false := by simpa using h
theorem not_f {b : Bool} (h : (!b) = false) : b = true := by simpa using h
theorem eqF_eq {α : Type} [DecidableEq α] {p : α → α → Bool} (hp : ∀ a b, p a b = decide (a = b)) : ∀ (l m : List α), eqF p l m = decide (l = m)
  | [], [] => by simp [eqF, zall]
  | x :: xs, [] => by simp [eqF]
  | [], y :: ys => by simp [eqF]
  | x :: xs, y :: ys => by
    have := eqF_eq hp xs ys
    simp only [eqF] at this
    simp only [eqF, zall, List.length_cons, hp]
    by_cases h : x = y
    · subst h
      simp only [decide_true, Bool.true_and, List.cons.injEq, true_and]
      rw [← this]
      congr 1
      simp
    · simp [h]
/-! What the package's small functions answer. -/
def numB (c : Int) : Bool := decide (c ≥ 48) && decide (c ≤ 57)
def letB (c : Int) : Bool := c == 95 || (decide (c ≥ 97) && decide (c ≤ 122)) || (decide (c ≥ 65) && decide (c ≤ 90)) || decide (c ≥ 128)
def toldB (l : List ByteArray) (n : Int) : Bool := decide (n ≥ 0) && decide (n < l.length)
def verB (ts : List ByteArray) (v : Ver) : Bool := if v.k == 0 then v.t == 0 else toldB ts v.t && decide (v.k > 0) && decide (v.k ≤ 999)
def levB (l : Int) : Int := if decide (l < 1) || decide (l > 4) then 190 else 0
def evEq (a b : Ev) : Bool := a.kind == b.kind && a.t == b.t && a.s == b.s && a.l == b.l && a.o == b.o && [a.v.t, a.v.k] == [b.v.t, b.v.k] && a.p == b.p && eqF seenEq a.scan b.scan
def ordEq (a b : Ord) : Bool := a.o == b.o && eqF intEq a.ts b.ts
def matEq (a b : Mat) : Bool := a.p == b.p && a.o == b.o && (a.first == b.first) && eqF intEq a.ts b.ts
structure Lim (N : Nat) (h : Hist) : Prop where
  ts : h.ts.length ≤ N
  ss : h.ss.length ≤ N
  os : h.os.length ≤ N
  ps : h.ps.length ≤ N
  evs : h.evs.length ≤ N
  ords : h.ords.length ≤ N
  mats : h.mats.length ≤ N
  wants : h.wants.length ≤ N
  scans : ∀ e ∈ h.evs, e.scan.length ≤ N
  ordts : ∀ o ∈ h.ords, o.ts.length ≤ N
  matts : ∀ m ∈ h.mats, m.ts.length ≤ N
def nmK (h : Hist) : Nat → List ByteArray
  | 0 => h.ts
  | 1 => h.ss
  | 2 => h.os
  | _ => h.ps
theorem nmK_get (h : Hist) {k : Nat} (hk : k < 4) : (namesC h)[k]? = some (strsA (nmK h k)) := by
  match k, hk with
  | 0, _ => rfl
  | 1, _ => rfl
  | 2, _ => rfl
  | 3, _ => rfl
theorem Lim.nm {N : Nat} {h : Hist} (l : Lim N h) (k : Nat) : (nmK h k).length ≤ N := by
  match k with
  | 0 => exact l.ts
  | 1 => exact l.ss
  | 2 => exact l.os
  | k + 3 => exact l.ps
def namesEq (a b : Hist) (k : Nat) : Bool := eqF strEq (nmK a k) (nmK b k)
def sameB (a b : Hist) : Bool := (List.range 4).all (namesEq a b) && eqF ordEq a.ords b.ords && eqF matEq a.mats b.mats && eqF wanEq a.wants b.wants && eqF evEq a.evs b.evs
theorem all_lt {p : Nat → Bool} {n : Nat} (h : ∀ j, j < n → p j = true) : (List.range n).all p = true := by
  rw [List.all_eq_true]; intro j hj; exact h j (List.mem_range.1 hj)
theorem all_not {p : Nat → Bool} {n k : Nat} (hk : k < n) (h : p k = false) : (List.range n).all p = false := by
  rw [List.all_eq_false]; exact ⟨k, List.mem_range.2 hk, by simp [h]⟩
/-! May an event be? -/
def mayBegin (h : Hist) (e : Ev) : Bool := toldB h.ss e.s && levB e.l == 0
def mayWrite (h : Hist) (e : Ev) : Bool := toldB h.os e.o && verB h.ts e.v && e.v.t == e.t && decide (e.v.k > 0)
def mayRead (h : Hist) (e : Ev) : Bool := toldB h.os e.o && verB h.ts e.v
def seenB (h : Hist) (s : Seen) : Bool := toldB h.os s.o && verB h.ts s.v
def mayScan (h : Hist) (e : Ev) : Bool := toldB h.ps e.p && decide ((e.scan.length : Int) ≤ 40) && e.scan.all (seenB h)
def cand (h : Hist) (e : Ev) : Ev × Bool :=
  if e.kind = 1 then (⟨0, 0, e.s, e.l, 0, ⟨0, 0⟩, 0, []⟩, mayBegin h e) else
  if e.kind = 2 then (⟨0, 0, 0, 0, e.o, e.v, 0, []⟩, mayWrite h e) else
  if e.kind = 3 then (⟨0, 0, 0, 0, e.o, e.v, 0, []⟩, mayRead h e) else
  if e.kind = 4 then (⟨0, 0, 0, 0, 0, ⟨0, 0⟩, e.p, e.scan⟩, mayScan h e) else
  (⟨0, 0, 0, 0, 0, ⟨0, 0⟩, 0, []⟩, true)
def eventB (h : Hist) (e : Ev) : Bool :=
  !(decide (e.kind < 1) || decide (e.kind ≥ 7) || !toldB h.ts e.t) && ((cand h e).2 && evEq { (cand h e).1 with kind := e.kind, t := e.t } e)
theorem cand_scan (h : Hist) (e : Ev) {N : Nat} (he : e.scan.length ≤ N) : (cand h e).1.scan.length ≤ N := by
  unfold cand; repeat' split
  all_goals simp [he]
def tsB (h : Hist) (ts : List Int) : Bool := decide ((ts.length : Int) ≤ 300) && ts.all (toldB h.ts)
def ordB (h : Hist) (r : Ord) : Bool := toldB h.os r.o && tsB h r.ts
def matB (h : Hist) (r : Mat) : Bool := toldB h.ps r.p && toldB h.os r.o && tsB h r.ts
def wanB (h : Hist) (r : Wan) : Bool := toldB h.ss r.s && decide (r.bits ≥ 0) && decide (r.bits ≤ 15)
end Go.H
/- What package lex, and the decoding of runes, answer. Conditions: none (definitions). -/
set_option linter.unusedVariables false
namespace Go.H
open Go Go.Ab
def bt (s : ByteArray) (i : Nat) : Int := if h : i < s.size then ((s[i]'h).toNat : Int) else 0
def firstV (i : Nat) : Int :=
  if i < 128 then 240 else if i < 194 then 241 else if i < 224 then 2 else if i = 224 then 19 else if i < 237 then 3 else if i = 237 then 35 else
  if i < 240 then 3 else if i = 240 then 52 else if i < 244 then 4 else if i = 244 then 68 else 241
def firstC : List AV := (List.range 256).map fun i => .v (.int .u8 (firstV i))
def accLo : Nat → Int
  | 1 => 160
  | 3 => 144
  | _ => 128
def accHi : Nat → Int
  | 2 => 159
  | 4 => 143
  | _ => 191
def acceptC : List AV := [.v (.int .u8 128), .v (.int .u8 191), .v (.int .u8 160), .v (.int .u8 191), .v (.int .u8 128), .v (.int .u8 159), .v (.int .u8 144), .v (.int .u8 191), .v (.int .u8 128), .v (.int .u8 143)] ++ List.replicate 22 (.v (.int .u8 0))
def limitsC : List AV := [iv 300, iv 60, iv 300, iv 60]
def bI (op : BinOp) (k : IntKind) (x y : Int) : Int := (bitsI op k x y).getD 0
def sI (op : BinOp) (k : IntKind) (x y : Int) : Int := (shiftI op k x y).getD 0
/-- Some bits of a byte, aS a rune, moved. -/
def rbits (b m sh : Int) : Int := if sh = 0 then IntKind.i32.wrap (bI .and .u8 b m) else sI .shl .i32 (IntKind.i32.wrap (bI .and .u8 b m)) sh
def decMask (x : Int) : Int := sI .shr .i32 (sI .shl .i32 (IntKind.i32.wrap x) 31) 31
def decSlow (s : ByteArray) : Int × Int :=
  if s.size < 1 then (65533, 0) else
  let x := firstV (bt s 0).toNat
  if x ≥ 240 then (bI .or .i32 (bI .andNot .i32 (IntKind.i32.wrap (bt s 0)) (decMask x)) (bI .and .i32 65533 (decMask x)), 1) else
  let sz := x % 8
  let acc := (x / 16).toNat
  if (s.size : Int) < sz then (65533, 1) else
  if bt s 1 < accLo acc ∨ accHi acc < bt s 1 then (65533, 1) else
  if sz ≤ 2 then (bI .or .i32 (rbits (bt s 0) 31 6) (rbits (bt s 1) 63 0), 2) else
  if bt s 2 < 128 ∨ 191 < bt s 2 then (65533, 1) else
  if sz ≤ 3 then (bI .or .i32 (bI .or .i32 (rbits (bt s 0) 15 12) (rbits (bt s 1) 63 6)) (rbits (bt s 2) 63 0), 3) else
  if bt s 3 < 128 ∨ 191 < bt s 3 then (65533, 1) else
  (bI .or .i32 (bI .or .i32 (bI .or .i32 (rbits (bt s 0) 7 18) (rbits (bt s 1) 63 12)) (rbits (bt s 2) 63 6)) (rbits (bt s 3) 63 0), 4)
def decStr (s : ByteArray) : Int × Int := if 0 < s.size ∧ bt s 0 < 128 then (bt s 0, 1) else decSlow s
theorem bt_ge (s : ByteArray) (i : Nat) : 0 ≤ bt s i := by unfold bt; split <;> omega
theorem bt_lt (s : ByteArray) (i : Nat) : bt s i < 256 := by
  unfold bt; split
  · rename_i h; have := (s[i]'h).toNat_lt; omega
  · omega
section
variable {P : Program} {dst : Option Tmp} {ty : TypeId} {pos : String} {after : Array Edge} {guard : Option (Nat × Bool)} {x y : Operand} {h : List Res} {f : Operand → Option AV}
theorem qr_index_bt {T : TypeId} (i : Nat) {s : ByteArray} (hx : f x = some (.v (.string s))) (hy : f y = some (.v (.int .i64 i))) [Und P T .string] (hi : i < s.size) :
    QR P h f ⟨dst, .index T x y, ty, pos, after, guard⟩ (.v (.int .u8 (bt s i))) := by
  have := qr_index_str (P := P) (h := h) (T := T) (dst := dst) (ty := ty) (pos := pos) (after := after) (guard := guard) hx hy hi
  have e : bt s i = ((s[i]'hi).toNat : Int) := by simp [bt, hi]
  rw [e]; exact this
theorem qr_indexAddr_int {T E : TypeId} {n b o sz : Nat} {i : Int} {kk : IntKind} (hx : f x = some (.v (.pointer (some ⟨b, o, none⟩)))) (hy : f y = some (.v (.int kk i))) [Und P T (.array n E)] [Siz P E sz] (h0 : 0 ≤ i) (hi : i < n) :
    QR P h f ⟨dst, .indexAddr T x y, ty, pos, after, guard⟩ (.v (.pointer (some ⟨b, o + i.toNat * sz, none⟩))) :=
  qr_indexAddr_arr (i := i.toNat) hx (by rw [Int.toNat_of_nonneg h0]; exact hy) (by omega)
end
theorem firstC_get {i : Int} (h0 : 0 ≤ i) (h1 : i < 256) : firstC[0 + i.toNat * 1]? = some (.v (.int .u8 (firstV i.toNat))) := by
  simp [firstC, show i.toNat < 256 by omega]
def limK : Nat → Nat
  | 0 => 300
  | 1 => 60
  | 2 => 300
  | _ => 60
theorem limitsC_get {k : Nat} (hk : k < 4) : limitsC[0 + k * 1]? = some (iv (limK k)) := by
  match k, hk with
  | 0, _ => rfl
  | 1, _ => rfl
  | 2, _ => rfl
  | 3, _ => rfl
theorem firstV_cases (i : Nat) : firstV i = 240 ∨ firstV i = 241 ∨ firstV i = 2 ∨ firstV i = 19 ∨ firstV i = 3 ∨ firstV i = 35 ∨ firstV i = 52 ∨ firstV i = 4 ∨ firstV i = 68 := by
  unfold firstV; repeat' split
  all_goals simp
theorem bt_wrap (s : ByteArray) (i : Nat) : IntKind.i32.wrap (bt s i) = bt s i := by
  have h0 := bt_ge s i; have h1 := bt_lt s i
  have e : bt s i % (2 ^ IntKind.i32.bits : Int) = bt s i := Int.emod_eq_of_lt h0 (show bt s i < 4294967296 by omega)
  unfold IntKind.wrap
  simp only [e]
  rw [if_neg]
  intro q
  have q2 : bt s i ≥ (2 ^ (IntKind.i32.bits - 1) : Int) := by simpa using (Bool.and_eq_true_iff.1 q).2
  have : (2 ^ (IntKind.i32.bits - 1) : Int) = 2147483648 := by decide
  omega
theorem str_ne {s : ByteArray} (h : (s.toList != (ByteArray.mk #[]).toList) = true) : 0 < s.size := by
  refine Nat.pos_of_ne_zero fun q => ?_
  have e : s = ⟨#[]⟩ := by cases s; congr 1; exact Array.eq_empty_of_size_eq_zero q
  rw [e] at h; simp at h
theorem str_eq {s : ByteArray} (h : (s.toList != (ByteArray.mk #[]).toList) = false) : ¬ 0 < s.size := by
  intro q
  have e : s.toList = (ByteArray.mk #[]).toList := by simpa using h
  rw [ByteArray.toList_eq, ByteArray.toList_eq] at e
  have : s.size = 0 := by
    have h2 := congrArg List.length e
    simpa using h2
  omega
/-- Is the rune one that stands there aS such? -/
def toldF (s : ByteArray) (i : Nat) (c : Int) : Bool := c != 65533 || decide ((decStr (s.extract i s.size)).2 > 1)
theorem width_pos (s : ByteArray) (i : Nat) : 0 < (Utf8.decode s i).2 := by
  simp only [Utf8.decode]
  repeat' split
  all_goals simp
/-- Where the first rune stands that p does not take, from pos on. -/
def whileF (s : ByteArray) (p : Nat → Int → Bool) (pos : Nat) : Nat :=
  if h : pos < s.size then
    if p pos (Utf8.decode s pos).1 then whileF s p (pos + (Utf8.decode s pos).2) else pos
  else s.size
  termination_by s.size - pos
  decreasing_by have := width_pos s pos; omega
theorem whileF_go {s : ByteArray} {p : Nat → Int → Bool} {k : Nat} (h : k < s.size) (hp : p k (Utf8.decode s k).1 = true) : whileF s p k = whileF s p (k + (Utf8.decode s k).2) := by
  rw [whileF, dif_pos h, if_pos hp]
theorem whileF_stop {s : ByteArray} {p : Nat → Int → Bool} {k : Nat} (h : k < s.size) (hp : p k (Utf8.decode s k).1 = false) : whileF s p k = k := by
  rw [whileF, dif_pos h, if_neg (by simp [hp])]
theorem whileF_end {s : ByteArray} {p : Nat → Int → Bool} {k : Nat} (h : ¬ k < s.size) : whileF s p k = s.size := by
  rw [whileF, dif_neg h]
end Go.H
/- What package history answers, aS plain functions: what is spoken of, whether a history may be, numbered anew, completed, a transaction's events. Conditions: none (definitions, and lemmas over lists). -/
set_option linter.unusedVariables false
namespace Go.H
open Go Go.Ab
/-! Words. -/
def okRune (s : ByteArray) (goes : Int → Bool) (i : Nat) (c : Int) : Bool := toldF s i c && goes c
def eitherB (c : Int) : Bool := letB c || numB c
def wordB (s : ByteArray) : Bool := (!(s.toList == [])) && decide ((s.size : Int) ≤ 24) && (!numB (bt s 0)) && ((whileF s (okRune s eitherB) 0 : Int) == s.size)
/-! May a history be, but for how its names are numbered? -/
def freshB : List ByteArray → List ByteArray → Bool
  | _, [] => true
  | met, s :: r => wordB s && (!memB s met) && freshB (met ++ [s]) r
def namesB (most : Nat) (l : List ByteArray) : Bool := decide ((l.length : Int) ≤ most) && freshB [] l
def sizesB (h : Hist) : Bool := decide ((h.evs.length : Int) ≤ 3000) && decide (max (max (h.ords.length : Int) h.mats.length) h.wants.length ≤ 3000)
def okK (h : Hist) : Nat → Bool
  | 0 => sizesB h
  | k + 1 => okK h k && namesB (limK k) (nmK h k)
def shapedB (h : Hist) : Bool :=
  okK h 4 && h.evs.all (eventB h) && h.ords.all (ordB h) && h.mats.all (matB h) && h.wants.all (wanB h)
theorem sizes_eq (h : Hist) : okK h 0 = (decide (((h.evs.map evR).length : Int) ≤ 3000) && decide (max (max ((h.ords.map ordR).length : Int) (h.mats.map matR).length) (h.wants.map wanR).length ≤ 3000)) := by
  simp [okK, sizesB]
theorem okK_false {h : Hist} {k : Nat} (hk : okK h k = false) : ∀ n, okK h (k + n) = false
  | 0 => hk
  | n + 1 => by
    have ih := okK_false hk n
    show (okK h (k + n) && _) = false
    rw [ih, Bool.false_and]
def okj (h : Hist) (k j : Nat) : Bool := okK h k && decide (((nmK h k).length : Int) ≤ limK k)
theorem okj_eq (h : Hist) (k : Nat) : okj h k 0 = (okK h k && decide ((((nmK h k).map strR).length : Int) ≤ limK k)) := by simp [okj]
theorem ok_or {o : Bool} {l m r : List ByteArray} {x : ByteArray} (hf : freshB [] l = freshB m (x :: r)) (h : (o && wordB x && !memB x m) = false) : o = false ∨ freshB [] l = false := by
  cases o with
  | false => exact .inl rfl
  | true => rw [Bool.true_and] at h; rw [hf, freshB, h, Bool.false_and]; exact .inr rfl
theorem ok_and {o a b : Bool} (h : (o && a && !b) = true) : o = true ∧ a = true ∧ b = false := by
  cases o <;> cases a <;> cases b <;> simp_all
theorem ok_end {h : Hist} {k : Nat} (h0 : freshB [] (nmK h k) = true) : okj h k 0 = okK h (k + 1) := by
  simp [okj, okK, namesB, h0]
theorem ok_bad {h : Hist} {k : Nat} (hk : k < 4) (h0 : okj h k 0 = false ∨ freshB [] (nmK h k) = false) : okK h 4 = false := by
  have h1 : okK h (k + 1) = false := by
    rcases h0 with h0 | h0
    · simp only [okK, namesB]; simp only [okj] at h0; rw [← Bool.and_assoc, h0, Bool.false_and]
    · simp [okK, namesB, h0]
  have := okK_false h1 (3 - k)
  rwa [show k + 1 + (3 - k) = 4 by omega] at this
/-! What is spoken of. -/
def madeL (v : Ver) : List (Nat × Int) := if decide (v.k > 0) then [(0, v.t)] else []
def seenL (s : Seen) : List (Nat × Int) := (2, s.o) :: madeL s.v
def kindL (e : Ev) : List (Nat × Int) := if e.kind = 1 then [(1, e.s)] else if e.kind = 2 ∨ e.kind = 3 then (2, e.o) :: madeL e.v else if e.kind = 4 then [(3, e.p)] else []
theorem kindL_1 {e : Ev} (h : e.kind = 1) : kindL e = [(1, e.s)] := by rw [kindL, if_pos h]
theorem kindL_2 {e : Ev} (h : e.kind = 2 ∨ e.kind = 3) : kindL e = (2, e.o) :: madeL e.v := by rw [kindL, if_neg (by omega), if_pos h]
theorem kindL_4 {e : Ev} (h : e.kind = 4) : kindL e = [(3, e.p)] := by rw [kindL, if_neg (by omega), if_neg (by omega), if_pos h]
theorem kindL_0 {e : Ev} (h1 : e.kind ≠ 1) (h2 : e.kind ≠ 2) (h3 : e.kind ≠ 3) (h4 : e.kind ≠ 4) : kindL e = [] := by rw [kindL, if_neg h1, if_neg (by omega), if_neg h4]
def evL (e : Ev) : List (Nat × Int) := (0, e.t) :: (kindL e ++ e.scan.flatMap seenL)
def tsL (l : List Int) : List (Nat × Int) := l.map fun t => (0, t)
def ordL (r : Ord) : List (Nat × Int) := (2, r.o) :: tsL r.ts
def matL (r : Mat) : List (Nat × Int) := (3, r.p) :: (2, r.o) :: tsL r.ts
def wanL (r : Wan) : List (Nat × Int) := [(1, r.s)]
def spokenL (h : Hist) : List (Nat × Int) := h.evs.flatMap evL ++ (h.ords.flatMap ordL ++ (h.mats.flatMap matL ++ h.wants.flatMap wanL))
/-- Going over a row, aS long aS it goes on. -/
def goes {σ α : Type} (step : σ → α → Option σ) : Option σ → List α → Option σ
  | st, [] => st
  | st, x :: r => goes step (st.bind fun s => step s x) r
theorem goes_append {σ α : Type} (step : σ → α → Option σ) : ∀ (l m : List α) (st : Option σ), goes step st (l ++ m) = goes step (goes step st l) m
  | [], m, st => rfl
  | x :: l, m, st => goes_append step l m _
theorem goes_none {σ α : Type} (step : σ → α → Option σ) : ∀ (l : List α), goes step none l = none
  | [] => rfl
  | x :: l => goes_none step l
/-- What is still to be gone over, and what it comes to; each of it is all right. -/
def Rem {σ α : Type} (step : σ → α → Option σ) (ok : α → Prop) (st : Option σ) (l : List α) (F : Option σ) : Prop := goes step st l = F ∧ ∀ x ∈ l, ok x
section
variable {σ α : Type} {step : σ → α → Option σ} {ok : α → Prop} {st F : Option σ} {l m : List α} {x : α}
theorem Rem.cons (h : Rem step ok st (x :: l) F) : ok x ∧ Rem step ok (goes step st [x]) l F := ⟨h.2 x (by simp), h.1, fun y hy => h.2 y (by simp [hy])⟩
theorem Rem.app (h : Rem step ok st (l ++ m) F) : (∀ x ∈ l, ok x) ∧ Rem step ok (goes step st l) m F := ⟨fun y hy => h.2 y (by simp [hy]), by rw [← goes_append]; exact h.1, fun y hy => h.2 y (by simp [hy])⟩
theorem Rem.fin (h : Rem step ok st [] F) : st = F := h.1
end
/-- How many of each sort have been told, each aS it comes first. -/
def manyStep (m : List Int) (x : Nat × Int) : Option (List Int) :=
  let a := m.getD x.1 0
  if x.2 > a then none else some (m.set x.1 (max a (x.2 + 1)))
def manyL (h : Hist) : Option (List Int) := goes manyStep (some [0, 0, 0, 0]) (spokenL h)
def lensL (h : Hist) : List Int := [h.ts.length, h.ss.length, h.os.length, h.ps.length]
/-- May a history be? -/
def mayB (h : Hist) : Bool := shapedB h && (manyL h == some (lensL h))
def checkE (h : Hist) : Int := if mayB h then 0 else 210
def hist0 : Hist := ⟨[], [], [], [], [], [], [], []⟩
/-! A transaction's events. -/
def ofL (t : Int) : Nat → List Ev → List Int
  | _, [] => []
  | i, e :: r => if e.t = t then (i : Int) :: ofL t (i + 1) r else ofL t (i + 1) r
/-! Completed. -/
def begunL (l : List Ev) (t : Int) : Bool := l.any fun e => e.t == t && e.kind == 1
def overL (l : List Ev) (t : Int) : Bool := l.any fun e => e.t == t && (e.kind == 5 || e.kind == 6)
def abortE (t : Nat) : Ev := ⟨6, t, 0, 0, 0, ⟨0, 0⟩, 0, []⟩
def openL (h : Hist) : List Nat := (List.range h.ts.length).filter fun t => begunL h.evs t && !overL h.evs t
def complH (h : Hist) : Hist := { h with evs := h.evs ++ (openL h).map abortE }
def complE (h : Hist) : Int := if mayB h then (if h.evs.length + (openL h).length ≤ 3000 then 0 else 6) else 210
def complR (h : Hist) : Hist := if complE h = 0 then complH h else hist0
def ofR (h : Hist) (t : Int) : List Int := if mayB h then ofL t 0 h.evs else []
/-! Numbered anew. -/
def travL {σ α : Type} (f : σ → α → α × σ) : σ → List α → List α × σ
  | s, [] => ([], s)
  | s, x :: r => ((f s x).1 :: (travL f (f s x).2 r).1, (travL f (f s x).2 r).2)
section
variable {σ : Type} (f : σ → Nat → Int → Int × σ)
def travN (k : Nat) (s : σ) (n : Int) : Int × σ := f s k n
def travVer (s : σ) (v : Ver) : Ver × σ := if decide (v.k > 0) then (⟨(f s 0 v.t).1, v.k⟩, (f s 0 v.t).2) else (v, s)
def travSeen (s : σ) (x : Seen) : Seen × σ :=
  let a := f s 2 x.o
  let b := travVer f a.2 x.v
  (⟨a.1, b.1⟩, b.2)
def travKind (s : σ) (e : Ev) : Ev × σ :=
  if e.kind = 1 then let a := f s 1 e.s; ({ e with s := a.1 }, a.2) else
  if e.kind = 2 ∨ e.kind = 3 then let a := f s 2 e.o; let b := travVer f a.2 e.v; ({ e with o := a.1, v := b.1 }, b.2) else
  if e.kind = 4 then let a := f s 3 e.p; ({ e with p := a.1 }, a.2) else (e, s)
def travEv (s : σ) (e : Ev) : Ev × σ :=
  let a := f s 0 e.t
  let b := travKind f a.2 { e with t := a.1 }
  let c := travL (travSeen f) b.2 e.scan
  ({ b.1 with scan := c.1 }, c.2)
def travTs (s : σ) (l : List Int) : List Int × σ := travL (fun s n => f s 0 n) s l
def travOrd (s : σ) (r : Ord) : Ord × σ :=
  let a := f s 2 r.o
  let b := travTs f a.2 r.ts
  (⟨a.1, b.1⟩, b.2)
def travMat (s : σ) (r : Mat) : Mat × σ :=
  let a := f s 3 r.p
  let b := f a.2 2 r.o
  let c := travTs f b.2 r.ts
  (⟨a.1, b.1, r.first, c.1⟩, c.2)
def travWan (s : σ) (r : Wan) : Wan × σ := let a := f s 1 r.s; (⟨a.1, r.bits⟩, a.2)
def travH (s : σ) (h : Hist) : Hist × σ :=
  let a := travL (travEv f) s h.evs
  let b := travL (travOrd f) a.2 h.ords
  let c := travL (travMat f) b.2 h.mats
  let d := travL (travWan f) c.2 h.wants
  ({ h with evs := a.1, ords := b.1, mats := c.1, wants := d.1 }, d.2)
end
/-- Where a number stands in a row, from a place on. -/
def posOf (n : Int) : Nat → List Int → Option Nat
  | _, [] => none
  | i, x :: r => if x = n then some i else posOf n (i + 1) r
/-- What is known aS one numbers anew: the old numbers of each sort, each aS it came first. -/
abbrev Olds := List (List Int)
def numStep (k : Olds) (sort : Nat) (n : Int) : Int × Olds :=
  match posOf n 0 (k.getD sort []) with
  | some i => ((i : Int), k)
  | none => (((k.getD sort []).length : Int), k.set sort (k.getD sort [] ++ [n]))
def olds0 : Olds := [[], [], [], []]
def nameAt (l : List ByteArray) (n : Int) : ByteArray := l.getD n.toNat ⟨#[]⟩
def numberH (h : Hist) : Hist :=
  let r := travH numStep olds0 h
  { r.1 with ts := (r.2.getD 0 []).map (nameAt h.ts), ss := (r.2.getD 1 []).map (nameAt h.ss), os := (r.2.getD 2 []).map (nameAt h.os), ps := (r.2.getD 3 []).map (nameAt h.ps) }
def numR (h : Hist) : Hist := if shapedB h then numberH h else hist0
def numE (h : Hist) : Int := if shapedB h then 0 else 210
end Go.H
/- Plain laws on histories: what a shaped one says of what is spoken of; when a history may be. Conditions: aS each lemma states. -/
set_option linter.unusedVariables false
namespace Go.H
open Go Go.Ab
theorem seenEq_eq (a b : Seen) : seenEq a b = decide (a = b) := by
  obtain ⟨ao, at_, ak⟩ := a; obtain ⟨bo, bt_, bk⟩ := b
  simp only [seenEq, Seen.mk.injEq, Ver.mk.injEq]
  by_cases h1 : ao = bo <;> by_cases h2 : at_ = bt_ <;> by_cases h3 : ak = bk <;> simp [h1, h2, h3]
theorem evEq_eq (a b : Ev) : evEq a b = decide (a = b) := by
  obtain ⟨a1, a2, a3, a4, a5, ⟨a6, a7⟩, a8, a9⟩ := a; obtain ⟨b1, b2, b3, b4, b5, ⟨b6, b7⟩, b8, b9⟩ := b
  simp only [evEq, eqF_eq seenEq_eq, Ev.mk.injEq, Ver.mk.injEq]
  rw [Bool.eq_iff_iff]
  simp [and_assoc]
/-- One of so many. -/
def OkN (h : Hist) (x : Nat × Int) : Prop := x.1 < 4 ∧ 0 ≤ x.2 ∧ x.2 < (nmK h x.1).length
theorem toldB_iff (l : List ByteArray) (n : Int) : toldB l n = true ↔ 0 ≤ n ∧ n < l.length := by simp [toldB]
theorem made_ok {h : Hist} {v : Ver} (hv : verB h.ts v = true) : ∀ x ∈ madeL v, OkN h x := by
  intro x hx
  unfold madeL at hx
  split at hx
  · rename_i hk
    have hk' : v.k > 0 := of_decide_eq_true hk
    simp only [List.mem_singleton] at hx
    subst hx
    unfold verB at hv
    rw [if_neg (by simp; omega)] at hv
    simp only [Bool.and_eq_true, toldB_iff] at hv
    exact ⟨by simp, hv.1.1.1, hv.1.1.2⟩
  · simp at hx
theorem seen_ok {h : Hist} {s : Seen} (hs : seenB h s = true) : ∀ x ∈ seenL s, OkN h x := by
  simp only [seenB, Bool.and_eq_true, toldB_iff] at hs
  intro x hx
  simp only [seenL, List.mem_cons] at hx
  rcases hx with rfl | hx
  · exact ⟨by simp, hs.1.1, hs.1.2⟩
  · exact made_ok hs.2 x hx
theorem event_parts {h : Hist} {e : Ev} (he : eventB h e = true) : 1 ≤ e.kind ∧ e.kind < 7 ∧ toldB h.ts e.t = true ∧ (cand h e).2 = true ∧ { (cand h e).1 with kind := e.kind, t := e.t } = e := by
  simp only [eventB, evEq_eq, Bool.and_eq_true, Bool.not_eq_true', Bool.or_eq_false_iff, decide_eq_true_eq, decide_eq_false_iff_not, Bool.not_eq_false'] at he
  exact ⟨by omega, by omega, he.1.2, he.2.1, he.2.2⟩
theorem ev_ok {h : Hist} {e : Ev} (he : eventB h e = true) : ∀ x ∈ evL e, OkN h x := by
  obtain ⟨h1, h7, ht, hc, hq⟩ := event_parts he
  have ht' := (toldB_iff _ _).1 ht
  intro x hx
  simp only [evL, List.mem_cons, List.mem_append] at hx
  rcases hx with rfl | hx
  · exact ⟨by simp, ht'.1, ht'.2⟩
  unfold cand at hc hq
  by_cases k1 : e.kind = 1
  · rw [if_pos k1] at hc hq
    simp only [mayBegin, Bool.and_eq_true, toldB_iff] at hc
    have hs : e.scan = [] := by rw [← hq]
    rw [hs, kindL_1 k1] at hx
    simp only [List.mem_singleton, List.flatMap_nil, List.not_mem_nil, or_false] at hx
    subst hx; exact ⟨by simp, hc.1.1, hc.1.2⟩
  rw [if_neg k1] at hc hq
  by_cases k2 : e.kind = 2
  · rw [if_pos k2] at hc hq
    simp only [mayWrite, Bool.and_eq_true, toldB_iff] at hc
    have hs : e.scan = [] := by rw [← hq]
    rw [hs, kindL_2 (.inl k2)] at hx
    simp only [List.mem_cons, List.flatMap_nil, List.not_mem_nil, or_false] at hx
    rcases hx with rfl | hx
    · exact ⟨by simp, hc.1.1.1.1, hc.1.1.1.2⟩
    · exact made_ok hc.1.1.2 x hx
  rw [if_neg k2] at hc hq
  by_cases k3 : e.kind = 3
  · rw [if_pos k3] at hc hq
    simp only [mayRead, Bool.and_eq_true, toldB_iff] at hc
    have hs : e.scan = [] := by rw [← hq]
    rw [hs, kindL_2 (.inr k3)] at hx
    simp only [List.mem_cons, List.flatMap_nil, List.not_mem_nil, or_false] at hx
    rcases hx with rfl | hx
    · exact ⟨by simp, hc.1.1, hc.1.2⟩
    · exact made_ok hc.2 x hx
  rw [if_neg k3] at hc hq
  by_cases k4 : e.kind = 4
  · rw [if_pos k4] at hc hq
    simp only [mayScan, Bool.and_eq_true, toldB_iff, List.all_eq_true] at hc
    rw [kindL_4 k4] at hx
    simp only [List.mem_singleton, List.mem_flatMap] at hx
    rcases hx with rfl | ⟨s, hs, hx⟩
    · exact ⟨by simp, hc.1.1.1, hc.1.1.2⟩
    · exact seen_ok (hc.2 s hs) x hx
  rw [if_neg k4] at hc hq
  have hs : e.scan = [] := by rw [← hq]
  rw [hs, kindL_0 k1 k2 k3 k4] at hx
  simp at hx
theorem ts_ok {h : Hist} {ts : List Int} (ht : tsB h ts = true) : ∀ x ∈ tsL ts, OkN h x := by
  simp only [tsB, Bool.and_eq_true, List.all_eq_true, toldB_iff] at ht
  intro x hx
  simp only [tsL, List.mem_map] at hx
  obtain ⟨t, h1, rfl⟩ := hx
  exact ⟨by simp, (ht.2 t h1).1, (ht.2 t h1).2⟩
theorem shaped_parts {h : Hist} (hs : shapedB h = true) : okK h 4 = true ∧ (∀ e ∈ h.evs, eventB h e = true) ∧ (∀ r ∈ h.ords, ordB h r = true) ∧ (∀ r ∈ h.mats, matB h r = true) ∧ ∀ r ∈ h.wants, wanB h r = true := by
  simp only [shapedB, Bool.and_eq_true, List.all_eq_true] at hs
  exact ⟨hs.1.1.1.1, hs.1.1.1.2, hs.1.1.2, hs.1.2, hs.2⟩
theorem shaped_ok {h : Hist} (hs : shapedB h = true) : ∀ x ∈ spokenL h, OkN h x := by
  obtain ⟨_, h1, h2, h3, h4⟩ := shaped_parts hs
  intro x hx
  simp only [spokenL, List.mem_append, List.mem_flatMap] at hx
  rcases hx with ⟨e, he, hx⟩ | ⟨r, hr, hx⟩ | ⟨r, hr, hx⟩ | ⟨r, hr, hx⟩
  · exact ev_ok (h1 e he) x hx
  · have := h2 r hr
    simp only [ordB, Bool.and_eq_true, toldB_iff] at this
    simp only [ordL, List.mem_cons] at hx
    rcases hx with rfl | hx
    · exact ⟨by simp, this.1.1, this.1.2⟩
    · exact ts_ok this.2 x hx
  · have := h3 r hr
    simp only [matB, Bool.and_eq_true, toldB_iff] at this
    simp only [matL, List.mem_cons] at hx
    rcases hx with rfl | rfl | hx
    · exact ⟨by simp, this.1.1.1, this.1.1.2⟩
    · exact ⟨by simp, this.1.2.1, this.1.2.2⟩
    · exact ts_ok this.2 x hx
  · have := h4 r hr
    simp only [wanB, Bool.and_eq_true, toldB_iff] at this
    simp only [wanL, List.mem_singleton] at hx
    subst hx
    exact ⟨by simp, this.1.1.1, this.1.1.2⟩
/-! When a history may be. -/
theorem many_len {m m' : List Int} {x : Nat × Int} (h : manyStep m x = some m') (hl : m.length = 4) : m'.length = 4 := by
  unfold manyStep at h
  simp only at h
  split at h
  · cases h
  · cases h; simpa using hl
theorem get4 {m : List Int} (hl : m.length = 4) {k : Nat} (hk : k < 4) : (m.map iv)[0 + k * 1]? = some (iv (m.getD k 0)) := by
  have h : k < m.length := by omega
  simp [h]
theorem set4 {m : List Int} (hl : m.length = 4) {k : Nat} (hk : k < 4) (v : Int) : (m.map iv).take (0 + k * 1) ++ [iv v] ++ (m.map iv).drop (0 + k * 1 + 1) = (m.set k v).map iv := by
  match m, hl with
  | [a, b, c, d], _ =>
    match k, hk with
    | 0, _ => rfl
    | 1, _ => rfl
    | 2, _ => rfl
    | 3, _ => rfl
theorem check_no {h : Hist} (hs : shapedB h = false) : checkE h = 210 := by simp [checkE, mayB, hs]
theorem check_none {h : Hist} (hm : manyL h = none) : checkE h = 210 := by
  have e : (manyL h == some (lensL h)) = false := by rw [hm]; rfl
  rw [checkE, mayB, e, Bool.and_false]; rfl
theorem lens_get (h : Hist) {k : Nat} (hk : k < 4) : (lensL h).getD k 0 = (nmK h k).length := by
  match k, hk with
  | 0, _ => rfl
  | 1, _ => rfl
  | 2, _ => rfl
  | 3, _ => rfl
theorem check_ne {h : Hist} {m : List Int} (hm : manyL h = some m) {k : Nat} (hk : k < 4) (hne : m.getD k 0 ≠ (nmK h k).length) : checkE h = 210 := by
  have e : (manyL h == some (lensL h)) = false := by
    rw [hm]
    simp only [Option.some_beq_some, beq_eq_false_iff_ne]
    rintro rfl
    exact hne (lens_get h hk)
  rw [checkE, mayB, e, Bool.and_false]; rfl
theorem check_eq {h : Hist} (hs : shapedB h = true) {m : List Int} (hm : manyL h = some m) (hl : m.length = 4) (he : ∀ k, k < 4 → m.getD k 0 = (nmK h k).length) : checkE h = 0 := by
  have e : m = lensL h := by
    match m, hl with
    | [a, b, c, d], _ =>
      have h0 := he 0 (by omega); have h1 := he 1 (by omega); have h2 := he 2 (by omega); have h3 := he 3 (by omega)
      simp [nmK] at h0 h1 h2 h3
      simp [lensL, h0, h1, h2, h3]
  rw [checkE, mayB, hs, hm, e]; simp
theorem may_shaped {h : Hist} (hm : mayB h = true) : shapedB h = true := by
  unfold mayB at hm
  exact (Bool.and_eq_true_iff.1 hm).1
theorem check_cases (h : Hist) : checkE h = 0 ∨ checkE h = 210 := by unfold checkE; split <;> simp
theorem check_0 {h : Hist} : checkE h = 0 ↔ mayB h = true := by unfold checkE; split <;> simp_all
end Go.H
/- Histories in memory of their own: how they stand. Conditions: none (definitions, and lemmas over lists). -/
set_option linter.unusedVariables false
namespace Go.H
open Go Go.Ab
def evRw (p : SV × Ev) : List AV := [iv p.2.kind, iv p.2.t, iv p.2.s, iv p.2.l, iv p.2.o, iv p.2.v.t, iv p.2.v.k, iv p.2.p, .v p.1.v]
def ordRw (p : SV × Ord) : List AV := [iv p.2.o, .v p.1.v]
def matRw (p : SV × Mat) : List AV := [iv p.2.p, iv p.2.o, bv p.2.first, .v p.1.v]
structure NV where
  vT : SV
  vS : SV
  vO : SV
  vP : SV
def NV.cells (n : NV) : List AV := [.v n.vT.v, .v n.vS.v, .v n.vO.v, .v n.vP.v]
structure OH where
  vE : SV
  vR : SV
  vM : SV
  vW : SV
  ts : List ByteArray
  ss : List ByteArray
  os : List ByteArray
  ps : List ByteArray
  evs : List (SV × Ev)
  ords : List (SV × Ord)
  mats : List (SV × Mat)
  wants : List Wan
def OH.hist (o : OH) : Hist := ⟨o.ts, o.ss, o.os, o.ps, o.evs.map (·.2), o.ords.map (·.2), o.mats.map (·.2), o.wants⟩
def OH.cells (o : OH) : List AV := [.v o.vE.v, .v o.vR.v, .v o.vM.v, .v o.vW.v]
def scR (T : TypeId) (l : List (SV × Ev)) : List Res := l.map fun p => .row p.1.v 3 T (p.2.scan.map seenR)
def otR (T : TypeId) (l : List (SV × Ord)) : List Res := l.map fun p => .row p.1.v 1 T (p.2.ts.map intR)
def mtR (T : TypeId) (l : List (SV × Mat)) : List Res := l.map fun p => .row p.1.v 1 T (p.2.ts.map intR)
def nilA : AV := .v (.slice none 0 0)
def histZ : List AV := [nilA, nilA, nilA, nilA, nilA, nilA, nilA, nilA]
theorem one_map {α : Type} {R : α → List AV} (h : ∀ a, (R a).all AV.one = true) (l : List α) : ∀ r ∈ l.map R, r.all AV.one = true := by
  intro r hr; obtain ⟨a, _, rfl⟩ := List.mem_map.1 hr; exact h a
theorem one_str (l : List ByteArray) : ∀ r ∈ l.map strR, r.all AV.one = true := one_map (fun a => rfl) l
theorem one_int (l : List Int) : ∀ r ∈ l.map intR, r.all AV.one = true := one_map (fun a => rfl) l
theorem one_seen (l : List Seen) : ∀ r ∈ l.map seenR, r.all AV.one = true := one_map (fun a => rfl) l
theorem one_ev (l : List Ev) : ∀ r ∈ l.map evR, r.all AV.one = true := one_map (fun a => rfl) l
theorem one_ord (l : List Ord) : ∀ r ∈ l.map ordR, r.all AV.one = true := one_map (fun a => rfl) l
theorem one_mat (l : List Mat) : ∀ r ∈ l.map matR, r.all AV.one = true := one_map (fun a => rfl) l
theorem one_wan (l : List Wan) : ∀ r ∈ l.map wanR, r.all AV.one = true := one_map (fun a => rfl) l
section
variable {α β : Type} {f : α → List AV} {g : β → List AV} {xs : List α} {l : List β} {k : Nat} {b : β} {a : α} {r : List AV}
theorem mid_len (hl : xs.length = k) (hk : k ≤ l.length) : (xs.map f ++ (l.drop k).map g).length = l.length := by
  simp [hl]; omega
theorem mid_get (hl : xs.length = k) (hd : l.drop k = b :: l.drop (k + 1)) : (xs.map f ++ (l.drop k).map g)[k]? = some (g b) := by
  rw [hd, List.getElem?_append_right (by simp [hl])]; simp [hl]
theorem mid_set (hl : xs.length = k) (hd : l.drop k = b :: l.drop (k + 1)) (hr : r = f a) : (xs.map f ++ (l.drop k).map g).set k r = (xs ++ [a]).map f ++ (l.drop (k + 1)).map g := by
  subst hl hr
  rw [hd, List.set_append_right _ _ (by simp)]
  simp
theorem mid_len2 {snd : α → β} (h : xs.map snd = l.take k) (hk : k ≤ l.length) : xs.length = k := by
  have := congrArg List.length h; simp at this; omega
theorem mid_snoc {snd : α → β} (h : xs.map snd = l.take k) (hk : k < l.length) (ha : snd a = l[k]) : (xs ++ [a]).map snd = l.take (k + 1) := by
  rw [List.map_append, h, List.take_succ_eq_append_getElem hk]; simp [ha]
end
theorem shaped_lim {h : Hist} (hs : shapedB h = true) : Lim 3000 h := by
  obtain ⟨h0, h1, h2, h3, h4⟩ := shaped_parts hs
  have hk : ∀ k, k < 4 → okK h (k + 1) = true := fun k hk => by
    cases hq : okK h (k + 1) with
    | true => rfl
    | false =>
      have := okK_false hq (3 - k)
      rw [show k + 1 + (3 - k) = 4 by omega, h0] at this; cases this
  have hn : ∀ k, k < 4 → (nmK h k).length ≤ 300 := fun k hk4 => by
    have := hk k hk4
    simp only [okK, namesB, Bool.and_eq_true, decide_eq_true_eq] at this
    have h5 : limK k ≤ 300 := by
      match k, hk4 with
      | 0, _ => decide
      | 1, _ => decide
      | 2, _ => decide
      | 3, _ => decide
    omega
  have hz : okK h 0 = true := by
    cases hq : okK h 0 with
    | true => rfl
    | false => have := okK_false hq 4; rw [h0] at this; cases this
  simp only [okK, sizesB, Bool.and_eq_true, decide_eq_true_eq] at hz
  refine ⟨by have := hn 0 (by omega); simp [nmK] at this; omega, by have := hn 1 (by omega); simp [nmK] at this; omega, by have := hn 2 (by omega); simp [nmK] at this; omega, by have := hn 3 (by omega); simp [nmK] at this; omega, by omega, by omega, by omega, by omega, fun e he => ?_, fun o ho => ?_, fun m hm => ?_⟩
  · obtain ⟨_, _, _, hc, hq⟩ := event_parts (h1 e he)
    rw [← hq]
    show (cand h e).1.scan.length ≤ 3000
    unfold cand at hc ⊢
    repeat' split
    all_goals first | (simp only [List.length_nil]; omega) | skip
    rename_i g1 g2 g3 g4
    rw [if_neg g1, if_neg g2, if_neg g3, if_pos g4] at hc
    simp only [mayScan, Bool.and_eq_true, decide_eq_true_eq] at hc
    show e.scan.length ≤ 3000
    omega
  · have := h2 o ho
    simp only [ordB, tsB, Bool.and_eq_true, decide_eq_true_eq] at this
    omega
  · have := h3 m hm
    simp only [matB, tsB, Bool.and_eq_true, decide_eq_true_eq] at this
    omega
theorem Lim.mono {N M : Nat} {h : Hist} (l : Lim N h) (hm : N ≤ M) : Lim M h :=
  ⟨Nat.le_trans l.ts hm, Nat.le_trans l.ss hm, Nat.le_trans l.os hm, Nat.le_trans l.ps hm, Nat.le_trans l.evs hm, Nat.le_trans l.ords hm, Nat.le_trans l.mats hm, Nat.le_trans l.wants hm, fun e he => Nat.le_trans (l.scans e he) hm, fun e he => Nat.le_trans (l.ordts e he) hm, fun e he => Nat.le_trans (l.matts e he) hm⟩
end Go.H
/- Going through a history and writing: plain laws of travH. Conditions: none (lemmas over lists). -/
set_option linter.unusedVariables false
namespace Go.H
open Go Go.Ab
section
variable {σ α : Type} (f : σ → Nat → Int → Int × σ)
theorem travKind_1 {s : σ} {e : Ev} (h : e.kind = 1) : travKind f s e = ({ e with s := (f s 1 e.s).1 }, (f s 1 e.s).2) := by rw [travKind, if_pos h]
theorem travKind_2 {s : σ} {e : Ev} (h : e.kind = 2 ∨ e.kind = 3) : travKind f s e = ({ e with o := (f s 2 e.o).1, v := (travVer f (f s 2 e.o).2 e.v).1 }, (travVer f (f s 2 e.o).2 e.v).2) := by rw [travKind, if_neg (by omega), if_pos h]
theorem travKind_4 {s : σ} {e : Ev} (h : e.kind = 4) : travKind f s e = ({ e with p := (f s 3 e.p).1 }, (f s 3 e.p).2) := by rw [travKind, if_neg (by omega), if_neg (by omega), if_pos h]
theorem travKind_0 {s : σ} {e : Ev} (h1 : e.kind ≠ 1) (h2 : e.kind ≠ 2) (h3 : e.kind ≠ 3) (h4 : e.kind ≠ 4) : travKind f s e = (e, s) := by rw [travKind, if_neg h1, if_neg (by omega), if_neg h4]
theorem travVer_1 {s : σ} {v : Ver} (h : v.k > 0) : travVer f s v = (⟨(f s 0 v.t).1, v.k⟩, (f s 0 v.t).2) := by rw [travVer, if_pos (by simpa using h)]
theorem travVer_0 {s : σ} {v : Ver} (h : ¬ v.k > 0) : travVer f s v = (v, s) := by rw [travVer, if_neg (by simpa using h)]
theorem travKind_scan (s : σ) (e : Ev) : (travKind f s e).1.scan = e.scan := by
  unfold travKind; repeat' split
  all_goals rfl
theorem travKind_kind (s : σ) (e : Ev) : (travKind f s e).1.kind = e.kind := by
  unfold travKind; repeat' split
  all_goals rfl
theorem travVer_k (s : σ) (v : Ver) : (travVer f s v).1.k = v.k := by
  unfold travVer; split <;> rfl
/-- What has been gone over, and what is left. -/
def Went (g : σ → α → α × σ) (F : List α × σ) (done : List α) (s : σ) (rest : List α) : Prop := F = (done ++ (travL g s rest).1, (travL g s rest).2)
theorem Went.start {g : σ → α → α × σ} {s : σ} {l : List α} : Went g (travL g s l) [] s l := rfl
theorem Went.step {g : σ → α → α × σ} {F : List α × σ} {done : List α} {s : σ} {x : α} {rest : List α} (h : Went g F done s (x :: rest)) : Went g F (done ++ [(g s x).1]) (g s x).2 rest := by
  unfold Went at h ⊢
  rw [h]; simp [travL]
theorem Went.fin {g : σ → α → α × σ} {F : List α × σ} {done : List α} {s : σ} (h : Went g F done s []) : F = (done, s) := by
  unfold Went at h
  rw [h]; simp [travL]
theorem travEv_eq {s : σ} {e : Ev} {sc : List Seen} {s' : σ} (h : travL (travSeen f) (travKind f (f s 0 e.t).2 { e with t := (f s 0 e.t).1 }).2 e.scan = (sc, s')) :
    travEv f s e = ({ (travKind f (f s 0 e.t).2 { e with t := (f s 0 e.t).1 }).1 with scan := sc }, s') := by
  simp only [travEv]
  rw [h]
theorem travOrd_eq {s : σ} {r : Ord} {l : List Int} {s' : σ} (h : travL (fun s n => f s 0 n) (f s 2 r.o).2 r.ts = (l, s')) : travOrd f s r = (⟨(f s 2 r.o).1, l⟩, s') := by
  simp only [travOrd, travTs]
  rw [h]
theorem travMat_eq {s : σ} {r : Mat} {l : List Int} {s' : σ} (h : travL (fun s n => f s 0 n) (f (f s 3 r.p).2 2 r.o).2 r.ts = (l, s')) : travMat f s r = (⟨(f s 3 r.p).1, (f (f s 3 r.p).2 2 r.o).1, r.first, l⟩, s') := by
  simp only [travMat, travTs]
  rw [h]
theorem travH_eq {s : σ} {h : Hist} {es : List Ev} {os : List Ord} {ms : List Mat} {ws : List Wan} {s1 s2 s3 s4 : σ} (h1 : travL (travEv f) s h.evs = (es, s1)) (h2 : travL (travOrd f) s1 h.ords = (os, s2)) (h3 : travL (travMat f) s2 h.mats = (ms, s3)) (h4 : travL (travWan f) s3 h.wants = (ws, s4)) :
    travH f s h = ({ h with evs := es, ords := os, mats := ms, wants := ws }, s4) := by
  simp only [travH]
  rw [h1]; simp only
  rw [h2]; simp only
  rw [h3]; simp only
  rw [h4]
end
theorem scR_snoc (T : TypeId) (l : List (SV × Ev)) (p : SV × Ev) : scR T (l ++ [p]) = scR T l ++ [.row p.1.v 3 T (p.2.scan.map seenR)] := by simp [scR]
theorem otR_snoc (T : TypeId) (l : List (SV × Ord)) (p : SV × Ord) : otR T (l ++ [p]) = otR T l ++ [.row p.1.v 1 T (p.2.ts.map intR)] := by simp [otR]
theorem mtR_snoc (T : TypeId) (l : List (SV × Mat)) (p : SV × Mat) : mtR T (l ++ [p]) = mtR T l ++ [.row p.1.v 1 T (p.2.ts.map intR)] := by simp [mtR]
section
variable {α : Type} {f : α → List AV} {A B : List α} {k : Nat} {b a : α} {r : List AV}
theorem at_get (hl : A.length = k) : (A.map f ++ (b :: B).map f)[k]? = some (f b) := by
  rw [List.getElem?_append_right (by simp [hl])]; simp [hl]
theorem at_set (hl : A.length = k) (hr : r = f a) : (A.map f ++ (b :: B).map f).set k r = A.map f ++ (a :: B).map f := by
  subst hl hr
  rw [List.set_append_right _ _ (by simp)]
  simp
theorem at_next : A.map f ++ (b :: B).map f = (A ++ [b]).map f ++ B.map f := by simp
theorem at_len (hl : A.length = k) : k < (A.map f ++ (b :: B).map f).length := by simp [hl]
end
theorem set_same {rows : List (List AV)} {row : List AV} {k off : Nat} {x : AV} (h1 : rows[k]? = some row) (h2 : row[off]? = some x) : rows.set k (row.take off ++ [x] ++ row.drop (off + 1)) = rows := by
  obtain ⟨hk, rfl⟩ := List.getElem?_eq_some_iff.1 h1
  obtain ⟨ho, rfl⟩ := List.getElem?_eq_some_iff.1 h2
  have : (rows[k].take off ++ [rows[k][off]] ++ rows[k].drop (off + 1)) = rows[k] := by
    rw [List.append_assoc, List.singleton_append, ← List.drop_eq_getElem_cons ho, List.take_append_drop]
  rw [this, List.set_getElem_self]
end Go.H
/- Completed: plain laws of what is open. Conditions: aS each lemma states. -/
set_option linter.unusedVariables false
namespace Go.H
open Go Go.Ab
def boolR (b : Bool) : List AV := [bv b]
def opens (N : Nat) (f : Nat → Bool) : List (List AV) := ((List.range N).map f).map boolR
theorem opens_start (N : Nat) : List.replicate N [AV.v (.bool false)] = opens N (fun t => begunL [] t) := by
  refine List.ext_getElem? fun i => ?_
  simp only [opens, List.map_map, List.getElem?_map, List.getElem?_range', List.getElem?_replicate]
  by_cases h : i < N
  · simp [h, boolR, begunL, List.getElem?_range h]
  · simp [h]
theorem opens_len (N : Nat) (f : Nat → Bool) : (opens N f).length = N := by simp [opens]
theorem opens_get {N : Nat} {f : Nat → Bool} {m : Nat} (h : m < N) : (opens N f)[m]? = some [bv (f m)] := by
  simp [opens, boolR, h]
theorem opens_set {N : Nat} {f g : Nat → Bool} {m : Nat} (h : m < N) (hg : ∀ t, t ≠ m → g t = f t) (r : List AV) (hr : r = [bv (g m)]) : (opens N f).set m r = opens N g := by
  subst hr
  refine List.ext_getElem? fun i => ?_
  rw [List.getElem?_set]
  by_cases hi : m = i
  · subst hi
    rw [if_pos rfl, if_pos (by simpa [opens] using h), opens_get h]
  · rw [if_neg hi]
    by_cases hl : i < N
    · rw [opens_get hl, opens_get hl, hg i (Ne.symm hi)]
    · rw [List.getElem?_eq_none (by rw [opens_len]; omega), List.getElem?_eq_none (by rw [opens_len]; omega)]
theorem begun_snoc (l : List Ev) (e : Ev) (t : Int) : begunL (l ++ [e]) t = (begunL l t || (e.t == t && e.kind == 1)) := by simp [begunL]
theorem over_snoc (l : List Ev) (e : Ev) (t : Int) : overL (l ++ [e]) t = (overL l t || (e.t == t && (e.kind == 5 || e.kind == 6))) := by simp [overL]
theorem take_snoc' {l : List Ev} {k : Nat} {e : Ev} (h : k < l.length) (he : e = l[k]) : l.take (k + 1) = l.take k ++ [e] := by rw [List.take_succ_eq_append_getElem h, he]
theorem begun_other {l : List Ev} {e : Ev} {m t : Nat} (hm : e.t = m) (ht : t ≠ m) : begunL (l ++ [e]) t = begunL l t := by
  rw [begun_snoc]
  have : (e.t == (t : Int)) = false := by simp [hm]; omega
  simp [this]
theorem over_other {l : List Ev} {e : Ev} {m t : Nat} (hm : e.t = m) (ht : t ≠ m) : overL (l ++ [e]) t = overL l t := by
  rw [over_snoc]
  have : (e.t == (t : Int)) = false := by simp [hm]; omega
  simp [this]
theorem begun_this {l : List Ev} {e : Ev} {m : Nat} (hm : e.t = m) : begunL (l ++ [e]) m = (begunL l m || e.kind == 1) := by
  rw [begun_snoc]; simp [hm]
theorem over_this {l : List Ev} {e : Ev} {m : Nat} (hm : e.t = m) : overL (l ++ [e]) m = (overL l m || (e.kind == 5 || e.kind == 6)) := by
  rw [over_snoc]; simp [hm]
def isOpen (h : Hist) (t : Nat) : Bool := begunL h.evs t && !overL h.evs t
def opensTo (h : Hist) (k : Nat) : List Nat := (List.range k).filter (isOpen h)
theorem opensTo_all (h : Hist) : opensTo h h.ts.length = openL h := rfl
theorem opensTo_go {h : Hist} {k : Nat} (ho : isOpen h k = true) : opensTo h (k + 1) = opensTo h k ++ [k] := by
  simp [opensTo, List.range_succ, ho]
theorem opensTo_no {h : Hist} {k : Nat} (ho : isOpen h k = false) : opensTo h (k + 1) = opensTo h k := by
  simp [opensTo, List.range_succ, ho]
theorem opensTo_len (h : Hist) (k : Nat) : (opensTo h k).length ≤ k := by
  have := List.length_filter_le (isOpen h) (List.range k)
  simpa [opensTo] using this
def nilS : SV := ⟨none, 0, 0⟩
def abR (l : List Nat) : List (SV × Ev) := l.map fun t => (nilS, abortE t)
theorem complE_0 {h : Hist} (hm : mayB h = true) (hl : h.evs.length + (openL h).length ≤ 3000) : complE h = 0 := by rw [complE, if_pos hm, if_pos hl]
theorem complE_6 {h : Hist} (hm : mayB h = true) (hl : ¬ h.evs.length + (openL h).length ≤ 3000) : complE h = 6 := by rw [complE, if_pos hm, if_neg hl]
theorem complE_210 {h : Hist} (hm : mayB h = false) : complE h = 210 := by rw [complE, if_neg (by simp [hm])]
theorem begin_1 {b : Bool} {k : Int} (h : b = true) : true = (b || k == 1) := by simp [h]
theorem begin_2 {b : Bool} {k : Int} (h : b = false) : (k == 1) = (b || k == 1) := by simp [h]
theorem open_1 {b o : Bool} {k : Int} (h : (b && !o) = true) (h5 : (k != 5) = true) : (k != 6) = (b && !(o || (k == 5 || k == 6))) := by
  have h5' : (k == 5) = false := by simpa using h5
  have hb : b = true ∧ o = false := by simpa using h
  rw [hb.1, hb.2, h5']; rfl
theorem open_2 {b o : Bool} {k : Int} (h : (b && !o) = true) (h5 : (k != 5) = false) : false = (b && !(o || (k == 5 || k == 6))) := by
  simp at h5; simp [h5]
theorem open_3 {b o : Bool} {k : Int} (h : (b && !o) = false) : false = (b && !(o || (k == 5 || k == 6))) := by
  cases b <;> cases o <;> simp_all
theorem ab_snd (l : List Nat) : (abR l).map (·.2) = l.map abortE := by simp [abR]
theorem compl_hist (o : OH) (s : SV) : ({ o with vE := s, evs := o.evs ++ abR (opensTo o.hist o.hist.ts.length) } : OH).hist = complH o.hist := by
  have e : (o.evs ++ abR (opensTo o.hist o.hist.ts.length)).map (·.2) = o.hist.evs ++ (openL o.hist).map abortE := by
    rw [List.map_append, ab_snd, opensTo_all]; rfl
  show Hist.mk o.ts o.ss o.os o.ps ((o.evs ++ abR (opensTo o.hist o.hist.ts.length)).map (·.2)) _ _ _ = _
  rw [e]; rfl
theorem many_6 {o : OH} (hc : decide ((((o.evs ++ abR (opensTo o.hist o.hist.ts.length)).map evRw).length : Int) > 3000) = true) : ¬ o.hist.evs.length + (openL o.hist).length ≤ 3000 := by
  have h := of_decide_eq_true hc
  rw [List.length_map, List.length_append, opensTo_all] at h
  have e : (abR (openL o.hist)).length = (openL o.hist).length := by simp [abR]
  have e2 : o.hist.evs.length = o.evs.length := by show (o.evs.map (·.2)).length = _; simp
  omega
theorem many_0 {o : OH} (hc : decide ((((o.evs ++ abR (opensTo o.hist o.hist.ts.length)).map evRw).length : Int) > 3000) = false) : o.hist.evs.length + (openL o.hist).length ≤ 3000 := by
  have h := of_decide_eq_false hc
  rw [List.length_map, List.length_append, opensTo_all] at h
  have e : (abR (openL o.hist)).length = (openL o.hist).length := by simp [abR]
  have e2 : o.hist.evs.length = o.evs.length := by show (o.evs.map (·.2)).length = _; simp
  omega
end Go.H
/- Numbered anew: what is known on the way, and how it stands in memory. Conditions: aS each lemma states. -/
set_option linter.unusedVariables false
namespace Go.H
open Go Go.Ab
theorem posOf_some {n : Int} : ∀ {l : List Int} {i j : Nat}, posOf n i l = some j → i ≤ j ∧ l[j - i]? = some n
  | [], i, j, h => by simp [posOf] at h
  | x :: r, i, j, h => by
    unfold posOf at h
    split at h
    · rename_i hx; cases h; exact ⟨Nat.le_refl _, by simp [hx]⟩
    · obtain ⟨h1, h2⟩ := posOf_some h
      exact ⟨by omega, by rw [show j - i = (j - (i + 1)) + 1 by omega]; simpa using h2⟩
theorem posOf_none {n : Int} : ∀ {l : List Int} {i : Nat}, posOf n i l = none ↔ n ∉ l
  | [], i => by simp [posOf]
  | x :: r, i => by
    unfold posOf
    split
    · rename_i hx; simp [hx]
    · rename_i hx
      rw [posOf_none]; simp only [List.mem_cons, not_or]
      exact ⟨fun h => ⟨fun e => hx e.symm, h⟩, fun h => h.2⟩
theorem posOf_append {n m : Int} : ∀ {l : List Int} {i : Nat}, posOf n i (l ++ [m]) = match posOf n i l with
    | some j => some j
    | none => if m = n then some (i + l.length) else none
  | [], i => by simp [posOf]
  | x :: r, i => by
    simp only [List.cons_append, posOf, List.length_cons]
    split
    · rfl
    · rw [posOf_append]; rw [show i + 1 + r.length = i + (r.length + 1) by omega]
/-- All is in order with what is known. -/
structure KOk (h : Hist) (k : Olds) : Prop where
  four : k.length = 4
  nd : ∀ s, (k.getD s []).Nodup
  lt : ∀ s, ∀ n ∈ k.getD s [], 0 ≤ n ∧ n < (nmK h s).length
theorem kok0 (h : Hist) : KOk h olds0 := by
  have e : ∀ s, olds0.getD s [] = [] := fun s => by
    match s with
    | 0 => rfl
    | 1 => rfl
    | 2 => rfl
    | 3 => rfl
    | s + 4 => simp [olds0]
  exact ⟨rfl, fun s => by rw [e]; exact .nil, fun s n hn => by rw [e] at hn; cases hn⟩
theorem getD_set' {k : Olds} {s s' : Nat} {l : List Int} (hs : s < k.length) : (k.set s l).getD s' [] = if s' = s then l else k.getD s' [] := by
  simp only [List.getD_eq_getElem?_getD, List.getElem?_set]
  by_cases h : s = s'
  · subst h; simp [hs]
  · simp [h, Ne.symm h]
theorem KOk.step {h : Hist} {k : Olds} (hk : KOk h k) {s : Nat} {n : Int} (hs : s < 4) (h0 : 0 ≤ n) (h1 : n < (nmK h s).length) : KOk h (numStep k s n).2 := by
  unfold numStep
  split
  · exact hk
  · rename_i hn
    have hn' := posOf_none.1 hn
    have hl : s < k.length := by rw [hk.four]; exact hs
    refine ⟨by simp [hk.four], fun s' => ?_, fun s' m hm => ?_⟩
    · show ((k.set s (k.getD s [] ++ [n])).getD s' []).Nodup
      rw [getD_set' hl]
      split
      · rw [List.nodup_append]
        exact ⟨hk.nd s, by simp, fun x hx y hy e => by simp only [List.mem_singleton] at hy; subst hy; subst e; exact hn' hx⟩
      · exact hk.nd s'
    · have hm2 : m ∈ (k.set s (k.getD s [] ++ [n])).getD s' [] := hm
      rw [getD_set' hl] at hm2
      split at hm2
      · rename_i e
        subst e
        rcases List.mem_append.1 hm2 with q | q
        · exact hk.lt _ m q
        · simp only [List.mem_singleton] at q; subst q; exact ⟨h0, h1⟩
      · exact hk.lt s' m hm2
theorem nodup_lt : ∀ {N : Nat} {l : List Nat}, l.Nodup → (∀ n ∈ l, n < N) → l.length ≤ N
  | 0, [], _, _ => Nat.le_refl _
  | 0, x :: l, _, h => absurd (h x (by simp)) (Nat.not_lt_zero _)
  | N + 1, l, hn, h => by
    by_cases hm : N ∈ l
    · have e : (l.erase N).length = l.length - 1 := List.length_erase_of_mem hm
      have := nodup_lt (N := N) (l := l.erase N) (hn.erase N) (fun n hn' => by
        have h1 := h n (List.mem_of_mem_erase hn')
        have h2 : n ≠ N := fun q => by subst q; exact (List.Nodup.not_mem_erase hn) hn'
        omega)
      omega
    · have := nodup_lt (N := N) (l := l) hn (fun n hn' => by
        have h1 := h n hn'
        have h2 : n ≠ N := fun q => by subst q; exact hm hn'
        omega)
      omega
theorem KOk.len {h : Hist} {k : Olds} (hk : KOk h k) (s : Nat) : (k.getD s []).length ≤ (nmK h s).length := by
  have := nodup_lt (N := (nmK h s).length) (l := (k.getD s []).map Int.toNat) (by
    rw [List.nodup_iff_pairwise_ne, List.pairwise_map]
    refine (List.nodup_iff_pairwise_ne.1 (hk.nd s)).imp_of_mem ?_
    intro a b ha hb hne e
    have := hk.lt s a ha; have := hk.lt s b hb
    omega) (fun n hn => by
    obtain ⟨m, hm, rfl⟩ := List.mem_map.1 hn
    have := hk.lt s m hm
    omega)
  simpa using this
/-! How it stands in memory. -/
abbrev AN := List (SV × List ByteArray)
def rowA (p : SV × List ByteArray) : Res := .row p.1.v 1 9 (p.2.map strR)
def cellA (p : SV × List ByteArray) : AV := .v p.1.v
/-- A map that knows the old numbers' places. -/
def MapK (es : List ((Int × Int) × AV)) (k : Olds) : Prop := ∀ (s : Nat) (n : Int), s < 4 → lookM ((s : Int), n) es = (posOf n 0 (k.getD s [])).map fun i => iv (i : Nat)
theorem mapK0 : MapK [] olds0 := fun s n hs => by
  match s, hs with
  | 0, _ => rfl
  | 1, _ => rfl
  | 2, _ => rfl
  | 3, _ => rfl
theorem lookM_updM {K : Type} [DecidableEq K] (k k' : K) (a : AV) : ∀ es : List (K × AV), lookM k' (updM k a es) = if k' = k then some a else lookM k' es
  | [] => by
    simp only [updM, lookM]
    by_cases h : k = k'
    · simp [h]
    · simp [h, Ne.symm h]
  | p :: r => by
    simp only [updM]
    by_cases h : p.1 = k
    · rw [if_pos h]
      simp only [lookM]
      by_cases h2 : p.1 = k'
      · rw [if_pos h2, if_pos (h2.symm.trans h)]
      · rw [if_neg h2, if_neg (fun e => h2 (h.trans e.symm)), if_neg h2]
    · rw [if_neg h]
      simp only [lookM]
      rw [lookM_updM k k' a r]
      by_cases h2 : p.1 = k'
      · rw [if_pos h2, if_neg (fun e => h (h2.trans e)), if_pos h2]
      · rw [if_neg h2, if_neg h2]
theorem MapK.look {es : List ((Int × Int) × AV)} {k : Olds} (hm : MapK es k) {s : Nat} (n : Int) (hs : s < 4) : (lookM ((s : Int), n) es).getD (.v (.int .i64 0)) = iv (((posOf n 0 (k.getD s [])).getD 0 : Nat) : Int) := by
  rw [hm s n hs]; cases posOf n 0 (k.getD s []) <;> rfl
theorem MapK.has {es : List ((Int × Int) × AV)} {k : Olds} (hm : MapK es k) {s : Nat} (n : Int) (hs : s < 4) : (lookM ((s : Int), n) es).isSome = (posOf n 0 (k.getD s [])).isSome := by
  rw [hm s n hs]; cases posOf n 0 (k.getD s []) <;> rfl
theorem MapK.step {es : List ((Int × Int) × AV)} {k : Olds} (hm : MapK es k) {s : Nat} {n : Int} (hs : s < 4) (h4 : k.length = 4) (hn : posOf n 0 (k.getD s []) = none) :
    MapK (updM ((s : Int), n) (iv ((k.getD s []).length : Nat)) es) (k.set s (k.getD s [] ++ [n])) := fun s' n' hs' => by
  rw [lookM_updM, hm s' n' hs', getD_set' (by omega)]
  by_cases h1 : s' = s
  · subst h1
    rw [if_pos rfl, posOf_append]
    by_cases h2 : n' = n
    · subst h2
      rw [if_pos rfl, hn]; simp
    · rw [if_neg (by simp [h2])]
      cases posOf n' 0 (k.getD s' []) with
      | some j => rfl
      | none => simp [Ne.symm h2]
  · rw [if_neg (by simp; omega), if_neg h1]
theorem an_get {A : AN} {p : SV × List ByteArray} {s : Nat} (h : A[s]? = some p) : (A.map cellA)[0 + s * 1]? = some (.v p.1.v) := by simp [h, cellA]
theorem an_set {A : AN} {p : SV × List ByteArray} {s : Nat} (hs : s < A.length) : (A.map cellA).take (0 + s * 1) ++ [.v p.1.v] ++ (A.map cellA).drop (0 + s * 1 + 1) = (A.set s p).map cellA := by
  rw [List.map_set, List.set_eq_take_append_cons_drop, if_pos (by simpa using hs)]
  simp [cellA]
theorem eraseIdx_map' {α β : Type} (f : α → β) : ∀ (l : List α) (i : Nat), (l.eraseIdx i).map f = (l.map f).eraseIdx i
  | [], i => by simp
  | x :: l, 0 => by simp
  | x :: l, i + 1 => by simp [eraseIdx_map' f l i]
theorem an_out {A : AN} {p : SV × List ByteArray} {s : Nat} (h : A[s]? = some p) (G : List Res) : (A.map rowA ++ G).Perm (rowA p :: ((A.eraseIdx s).map rowA ++ G)) := by
  have := get_perm (h := A.map rowA) (i := s) (r := rowA p) (by simp [h])
  rw [← eraseIdx_map'] at this
  exact List.Perm.append_right G this
theorem an_in {A : AN} {p : SV × List ByteArray} {s : Nat} (hs : s < A.length) (G : List Res) : (rowA p :: ((A.eraseIdx s).map rowA ++ G)).Perm ((A.set s p).map rowA ++ G) := by
  have := set_perm (h := A.map rowA) (i := s) (r := rowA p) (by simpa using hs)
  rw [← List.map_set, ← eraseIdx_map'] at this
  exact List.Perm.append_right G this.symm
theorem an_snd {A : AN} {f : Nat → Int → ByteArray} {k : Olds} (ha : A.map (·.2) = k.mapIdx fun s l => l.map (f s)) {s : Nat} {p : SV × List ByteArray} (h : A[s]? = some p) : p.2 = (k.getD s []).map (f s) ∧ s < k.length := by
  have h1 := congrArg (fun l => l[s]?) ha
  simp only [List.getElem?_map, h, Option.map_some, List.getElem?_mapIdx] at h1
  cases hk : k[s]? with
  | none => rw [hk] at h1; cases h1
  | some l =>
    rw [hk] at h1
    simp only [Option.map_some, Option.some.injEq] at h1
    exact ⟨by rw [h1]; simp [hk], (List.getElem?_eq_some_iff.1 hk).1⟩
theorem an_snd_set {A : AN} {f : Nat → Int → ByteArray} {k : Olds} (ha : A.map (·.2) = k.mapIdx fun s l => l.map (f s)) {s : Nat} {v : SV} {l : List ByteArray} {m : Int} (hl : l = (k.getD s []).map (f s)) :
    (A.set s (v, l ++ [f s m])).map (·.2) = (k.set s (k.getD s [] ++ [m])).mapIdx fun s l => l.map (f s) := by
  rw [List.map_set, ha]
  refine List.ext_getElem? fun i => ?_
  simp only [List.getElem?_set, List.getElem?_mapIdx, List.length_mapIdx]
  by_cases h : s = i
  · subst h
    by_cases h2 : s < k.length
    · simp [h2, hl]
    · simp [h2]
  · simp [h]
theorem nameAt_get {l : List ByteArray} {m : Nat} (h : m < l.length) : nameAt l ((m : Nat) : Int) = l[m] := by simp [nameAt, h]
theorem row57 {s : SV} {l : List ByteArray} {x y : ByteArray} (h : x = y) : Res.row s.v 1 9 (l.map strR ++ [[sv y]]) = rowA (s, l ++ [x]) := by subst h; simp [rowA, strR]
theorem an_outF {A : AN} {p : SV × List ByteArray} {s : Nat} (X G : List Res) (h : A[s]? = some p) : (X ++ (A.map rowA ++ G)).Perm (rowA p :: (X ++ ((A.eraseIdx s).map rowA ++ G))) :=
  (List.Perm.append_left X (an_out h G)).trans List.perm_middle
theorem an_inF {A : AN} {p : SV × List ByteArray} {s : Nat} (X G : List Res) (hs : s < A.length) : (rowA p :: (X ++ ((A.eraseIdx s).map rowA ++ G))).Perm (X ++ ((A.set s p).map rowA ++ G)) :=
  List.perm_middle.symm.trans (List.Perm.append_left X (an_in hs G))
end Go.H
/- A history in memory of its own, given up, reads aS plain lists. Conditions: none. -/
set_option linter.unusedVariables false
namespace Go.H
open Go Go.Ab
section
variable {w : World} {O O' : Nat → Prop}
/-- Cells that say aS much elsewhere. -/
def CT (w : World) (O O' : Nat → Prop) : List AV → List AV → Prop
  | [], [] => True
  | a :: aS, b :: bs => (∀ u, Rel w O a u → Rel w O' b u) ∧ CT w O O' aS bs
  | _, _ => False
theorem CT.len : ∀ {aS bs : List AV}, CT w O O' aS bs → bs.length = aS.length
  | [], [], _ => rfl
  | _ :: _, _ :: _, h => by simp [CT.len h.2]
  | [], _ :: _, h => h.elim
  | _ :: _, [], h => h.elim
theorem CT.get : ∀ {aS bs : List AV}, CT w O O' aS bs → ∀ j (k : j < aS.length) (k' : j < bs.length) u, Rel w O aS[j] u → Rel w O' bs[j] u
  | _ :: _, _ :: _, h, 0, _, _, u, r => h.1 u r
  | _ :: _, _ :: _, h, j + 1, k, k', u, r => CT.get h.2 j (by simpa using k) (by simpa using k') u r
theorem sc (x : Value) : ∀ u, Rel w O (.v x) u → Rel w O' (.v x) u := fun u r => (Scal.v x).rel r
theorem sn {x : Value} {b : AV} (h : Rel w O' b x) : ∀ u, Rel w O (.v x) u → Rel w O' b u := fun u r => by rw [r.v_eq]; exact h
theorem to_list {X : Nat → Prop} {H : List Res} (hh : HRel X w H) {s : Value} {sz : Nat} {T : TypeId} {α : Type} {f g : α → List AV} {l : List α} (hm : .row s sz T (l.map f) ∈ H) (hO : ∀ b ∈ (Res.row s sz T (l.map f)).own, ¬ O' b)
    (hc : ∀ a ∈ l, CT w (OO H X) O' (f a) (g a)) : Rel w O' (.list false sz (l.map g)) s := by
  refine row_list_of hh hm hO (by simp) (fun i h h' => ?_) (fun i h h' j k k' u r => ?_)
  · simp only [List.getElem_map]; exact (hc _ (List.getElem_mem _)).len
  · simp only [List.getElem_map] at k k' r ⊢
    exact (hc _ (List.getElem_mem _)).get j k k' u r
end
theorem hist_freeze (G : List Res) (n : NV) (o : OH) (T9 T40 T54 T57 T60 T52 T3 : TypeId) (H : List Res)
    (h1 : .row n.vT.v 1 T9 (o.ts.map strR) ∈ H) (h2 : .row n.vS.v 1 T9 (o.ss.map strR) ∈ H) (h3 : .row n.vO.v 1 T9 (o.os.map strR) ∈ H) (h4 : .row n.vP.v 1 T9 (o.ps.map strR) ∈ H)
    (h5 : .row o.vE.v 9 T40 (o.evs.map evRw) ∈ H) (h6 : .row o.vR.v 2 T54 (o.ords.map ordRw) ∈ H) (h7 : .row o.vM.v 4 T57 (o.mats.map matRw) ∈ H) (h8 : .row o.vW.v 2 T60 (o.wants.map wanR) ∈ H)
    (h9 : ∀ r ∈ scR T52 o.evs, r ∈ H) (h10 : ∀ r ∈ otR T3 o.ords, r ∈ H) (h11 : ∀ r ∈ mtR T3 o.mats, r ∈ H) (b : AV) (hb : Scal b) : VEnt (G ++ H) (.tup [.agg (n.cells ++ o.cells), b]) G (.tup [.agg (histC o.hist), b]) := by
  refine ⟨fun x hx => by rw [owns_append]; exact List.mem_append_left _ hx, fun X w v hh hr => ?_⟩
  have hG : HRel X w G := HRel.drop (h := H) (hh.perm List.perm_append_comm)
  refine ⟨hG, ?_⟩
  have hmem : ∀ r ∈ H, r ∈ G ++ H := fun r hr => List.mem_append_right _ hr
  have hout : ∀ r ∈ H, ∀ x ∈ r.own, ¬ OO G X x := fun r hr x hx q => by
    have hxH : x ∈ owns H := mem_owns.2 ⟨r, hr, hx⟩
    have hn := hh.nodup
    rw [owns_append, List.nodup_append] at hn
    rcases q with q | q
    · exact hn.2.2 x q x hxH rfl
    · exact (hh.lt x (by rw [owns_append]; exact List.mem_append_right _ hxH)).2 q
  have S : ∀ {α : Type} {s : Value} {sz : Nat} {T : TypeId} {f g : α → List AV} {l : List α}, .row s sz T (l.map f) ∈ H → (∀ a ∈ l, CT w (OO (G ++ H) X) (OO G X) (f a) (g a)) → Rel w (OO G X) (.list false sz (l.map g)) s :=
    fun hm hc => to_list hh (hmem _ hm) (hout _ hm) hc
  have str : ∀ {s : Value} {T : TypeId} {l : List ByteArray}, .row s 1 T (l.map strR) ∈ H → Rel w (OO G X) (strsA l) s := fun hm => S hm fun a _ => ⟨sc _, trivial⟩
  have ints : ∀ {s : Value} {T : TypeId} {l : List Int}, .row s 1 T (l.map intR) ∈ H → Rel w (OO G X) (intsA l) s := fun hm => S hm fun a _ => ⟨sc _, trivial⟩
  have evs : Rel w (OO G X) (evsA o.hist.evs) o.vE.v := by
    have := S (g := fun p => evR p.2) h5 fun p hp => ⟨sc _, sc _, sc _, sc _, sc _, sc _, sc _, sc _, sn (S (f := seenR) (g := seenR) (h9 _ (List.mem_map.2 ⟨p, hp, rfl⟩)) fun a _ => ⟨sc _, sc _, sc _, trivial⟩), trivial⟩
    show Rel w (OO G X) (.list false 9 ((o.evs.map (·.2)).map evR)) o.vE.v
    rw [List.map_map]; exact this
  have ords : Rel w (OO G X) (ordsA o.hist.ords) o.vR.v := by
    have := S (g := fun p => ordR p.2) h6 fun p hp => ⟨sc _, sn (ints (h10 _ (List.mem_map.2 ⟨p, hp, rfl⟩))), trivial⟩
    show Rel w (OO G X) (.list false 2 ((o.ords.map (·.2)).map ordR)) o.vR.v
    rw [List.map_map]; exact this
  have mats : Rel w (OO G X) (matsA o.hist.mats) o.vM.v := by
    have := S (g := fun p => matR p.2) h7 fun p hp => ⟨sc _, sc _, sc _, sn (ints (h11 _ (List.mem_map.2 ⟨p, hp, rfl⟩))), trivial⟩
    show Rel w (OO G X) (.list false 4 ((o.mats.map (·.2)).map matR)) o.vM.v
    rw [List.map_map]; exact this
  have wants : Rel w (OO G X) (wansA o.hist.wants) o.vW.v := S h8 fun a _ => ⟨sc _, sc _, trivial⟩
  have hcells : CT w (OO (G ++ H) X) (OO G X) (n.cells ++ o.cells) (histC o.hist) := ⟨sn (str h1), sn (str h2), sn (str h3), sn (str h4), sn evs, sn ords, sn mats, sn wants, trivial⟩
  cases hr with
  | tup _ cs hl hc =>
    refine .tup _ cs (by simpa using hl) fun j k1 k2 => ?_
    have hj : j = 0 ∨ j = 1 := by simp at k1; omega
    rcases hj with rfl | rfl
    · have h0 := hc 0 (by simp) k2
      simp only [List.getElem_cons_zero] at h0 ⊢
      generalize cs[0] = c at h0
      cases h0 with
      | agg _ ds hl2 hc2 => exact .agg _ ds (by rw [hcells.len]; exact hl2) fun j a b => hcells.get j (by rw [← hcells.len]; exact a) a _ (hc2 j (by rw [← hcells.len]; exact a) b)
    · have h0 := hc 1 (by simp) k2
      simp only [List.getElem_cons_succ, List.getElem_cons_zero] at h0 ⊢
      exact hb.rel h0
end Go.H
/- The laws' own histories. Conditions: none (definitions). -/
set_option linter.unusedVariables false
namespace Go.H
open Go Go.Ab
def bT : ByteArray := ⟨#[116]⟩
def bS : ByteArray := ⟨#[115]⟩
def bX : ByteArray := ⟨#[120]⟩
def bY : ByteArray := ⟨#[121]⟩
def smallH : Hist := ⟨[bT], [bS], [bX], [], [⟨1, 0, 0, 1, 0, ⟨0, 0⟩, 0, []⟩, ⟨2, 0, 0, 0, 0, ⟨0, 1⟩, 0, []⟩, ⟨5, 0, 0, 0, 0, ⟨0, 0⟩, 0, []⟩], [], [], []⟩
/-! A history that can be gone through. -/
def cutS (s : ByteArray) : ByteArray := s.extract 0 (min s.size 40)
def cutL (most : Nat) (l : List ByteArray) : List ByteArray := (l.take most).map cutS
def cutE (e : Ev) : Ev := { e with scan := e.scan.take 41 }
def cutO (r : Ord) : Ord := { r with ts := r.ts.take 20 }
def cutM (r : Mat) : Mat := { r with ts := r.ts.take 20 }
def fewH (h : Hist) : Hist := ⟨cutL 20 h.ts, cutL 10 h.ss, cutL 20 h.os, cutL 10 h.ps, (h.evs.take 80).map cutE, (h.ords.take 20).map cutO, (h.mats.take 20).map cutM, h.wants.take 20⟩
theorem take_min {α β : Type} (f : α → β) (l : List α) (n : Nat) : (l.map f).take (min l.length n) = (l.take n).map f := by
  rw [← List.map_take]
  rcases Nat.le_total l.length n with h | h
  · rw [Nat.min_eq_left h, List.take_of_length_le (Nat.le_refl _), List.take_of_length_le h]
  · rw [Nat.min_eq_right h]
theorem tk_go {α : Type} {l : List α} {k n : Nat} {e : α} (h : k < l.length) (hn : k < n) (he : e = l[k]) : l.take (min (k + 1) n) = l.take (min k n) ++ [e] := by
  rw [Nat.min_eq_left (by omega), Nat.min_eq_left (by omega), List.take_succ_eq_append_getElem h, he]
theorem tk_no {α : Type} {l : List α} {k n : Nat} (hn : ¬ k < n) : l.take (min (k + 1) n) = l.take (min k n) := by
  rw [Nat.min_eq_right (by omega), Nat.min_eq_right (by omega)]
theorem tk_end {α : Type} (l : List α) (n : Nat) : l.take (min l.length n) = l.take n := by
  rcases Nat.le_total l.length n with h | h
  · rw [Nat.min_eq_left h, List.take_of_length_le (Nat.le_refl _), List.take_of_length_le h]
  · rw [Nat.min_eq_right h]
theorem tk_len {α : Type} (l : List α) (k n : Nat) : (l.take (min k n)).length ≤ n := by simp; omega
end Go.H
/- When two histories are the same; the law's small history is answered aS it should be. Conditions: aS each lemma states. -/
set_option linter.unusedVariables false
namespace Go.H
open Go Go.Ab
theorem toList_inj {a b : ByteArray} (h : a.toList = b.toList) : a = b := by
  rw [ByteArray.toList_eq, ByteArray.toList_eq] at h
  cases a; cases b; congr 1; exact Array.ext' h
theorem strEq_eq (a b : ByteArray) : strEq a b = decide (a = b) := by
  unfold strEq
  by_cases h : a = b
  · subst h; simp
  · rw [decide_eq_false h, beq_eq_false_iff_ne]; exact fun q => h (toList_inj q)
theorem intEq_eq (a b : Int) : intEq a b = decide (a = b) := rfl
theorem wanEq_eq (a b : Wan) : wanEq a b = decide (a = b) := by
  obtain ⟨a1, a2⟩ := a; obtain ⟨b1, b2⟩ := b
  rw [Bool.eq_iff_iff]; simp [wanEq]
theorem ordEq_eq (a b : Ord) : ordEq a b = decide (a = b) := by
  obtain ⟨a1, a2⟩ := a; obtain ⟨b1, b2⟩ := b
  rw [Bool.eq_iff_iff]; simp [ordEq, eqF_eq intEq_eq]
theorem matEq_eq (a b : Mat) : matEq a b = decide (a = b) := by
  obtain ⟨a1, a2, a3, a4⟩ := a; obtain ⟨b1, b2, b3, b4⟩ := b
  rw [Bool.eq_iff_iff]; simp [matEq, eqF_eq intEq_eq, and_assoc]
theorem sameB_iff (a b : Hist) : sameB a b = true ↔ a = b := by
  obtain ⟨a1, a2, a3, a4, a5, a6, a7, a8⟩ := a; obtain ⟨b1, b2, b3, b4, b5, b6, b7, b8⟩ := b
  have e : (List.range 4).all (namesEq ⟨a1, a2, a3, a4, a5, a6, a7, a8⟩ ⟨b1, b2, b3, b4, b5, b6, b7, b8⟩) = (decide (a1 = b1) && decide (a2 = b2) && decide (a3 = b3) && decide (a4 = b4)) := by
    simp [List.range_succ, namesEq, nmK, eqF_eq strEq_eq, Bool.and_assoc]
  simp only [sameB, e, eqF_eq ordEq_eq, eqF_eq matEq_eq, eqF_eq wanEq_eq, eqF_eq evEq_eq, Bool.and_eq_true, decide_eq_true_eq, Hist.mk.injEq]
  constructor
  · rintro ⟨⟨⟨⟨⟨⟨⟨h1, h2⟩, h3⟩, h4⟩, h6⟩, h7⟩, h8⟩, h5⟩; exact ⟨h1, h2, h3, h4, h5, h6, h7, h8⟩
  · rintro ⟨h1, h2, h3, h4, h5, h6, h7, h8⟩; exact ⟨⟨⟨⟨⟨⟨⟨h1, h2⟩, h3⟩, h4⟩, h6⟩, h7⟩, h8⟩, h5⟩
theorem sameB_self (a : Hist) : sameB a a = true := (sameB_iff a a).2 rfl
theorem word_one {s : ByteArray} {c : Nat} (h1 : s.size = 1) (hc : c < 128) (hl : letB c = true) (hd : Utf8.decode s 0 = (c, 1)) (hne : (s.toList == []) = false) (hb : bt s 0 = c) (hn : numB c = false) : wordB s = true := by
  have hp : okRune s eitherB 0 ((Utf8.decode s 0).1 : Nat) = true := by
    rw [hd]
    have h2 : (((c : Nat) : Int) != 65533) = true := by simp; omega
    simp only [okRune, toldF, eitherB, hl, h2, Bool.true_or, Bool.and_true]
  have hw : whileF s (okRune s eitherB) 0 = s.size := by
    rw [whileF_go (by omega) hp, hd]
    exact whileF_end (by simp; omega)
  simp only [wordB, hne, hb, hn, hw, h1]; decide
theorem word_T : wordB bT = true := word_one (c := 116) rfl (by decide) (by decide) (by decide) (by rw [ByteArray.toList_eq]; rfl) (by decide) (by decide)
theorem word_S : wordB bS = true := word_one (c := 115) rfl (by decide) (by decide) (by decide) (by rw [ByteArray.toList_eq]; rfl) (by decide) (by decide)
theorem word_X : wordB bX = true := word_one (c := 120) rfl (by decide) (by decide) (by decide) (by rw [ByteArray.toList_eq]; rfl) (by decide) (by decide)
theorem word_Y : wordB bY = true := word_one (c := 121) rfl (by decide) (by decide) (by decide) (by rw [ByteArray.toList_eq]; rfl) (by decide) (by decide)
def openH : Hist := { smallH with evs := smallH.evs.take 2 }
def otherH : Hist := { smallH with os := [bY, bX], evs := [⟨1, 0, 0, 1, 0, ⟨0, 0⟩, 0, []⟩, ⟨2, 0, 0, 0, 1, ⟨0, 1⟩, 0, []⟩, ⟨5, 0, 0, 0, 0, ⟨0, 0⟩, 0, []⟩] }
theorem xy : memB bX [bY] = false := by decide
theorem shaped_small : shapedB smallH = true := by
  have h : okK smallH 4 = true := by
    simp only [okK, nmK, namesB, smallH, freshB, word_T, word_S, word_X, List.length_singleton, List.length_nil]; decide
  rw [shapedB, h]; decide
theorem shaped_open : shapedB openH = true := by
  have h : okK openH 4 = true := by
    simp only [okK, nmK, namesB, openH, smallH, freshB, word_T, word_S, word_X, List.length_singleton, List.length_nil]; decide
  rw [shapedB, h]; decide
theorem shaped_other : shapedB otherH = true := by
  have h : okK otherH 4 = true := by
    simp only [okK, nmK, namesB, otherH, smallH, freshB, word_T, word_S, word_X, word_Y, List.length_cons, List.length_nil, List.nil_append, xy]; decide
  rw [shapedB, h]; decide
theorem may_small : mayB smallH = true := by rw [mayB, shaped_small]; decide
theorem may_open : mayB openH = true := by rw [mayB, shaped_open]; decide
theorem w1 : complE openH = 0 := by rw [complE, may_open]; decide
theorem w2 : ofR smallH 0 = [0, 1, 2] := by rw [ofR, may_small]; decide
theorem w2' : checkE smallH = 0 := check_0.2 may_small
theorem w3 : numE otherH = 0 := by rw [numE, shaped_other]; rfl
theorem w4 : checkE otherH = 210 := by
  have : mayB otherH = false := by rw [mayB, shaped_other]; decide
  rw [checkE, this]; rfl
theorem w5 : complR openH = complH openH := by rw [complR, if_pos w1]
theorem w7 : numR otherH = smallH := by rw [numR, shaped_other]; rfl
end Go.H
