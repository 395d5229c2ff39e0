/- The walks of the rules of events. Conditions: none. -/
import Derived.Test.YtdbfjfphfbcgiaaGreatDoorPlaceE
set_option linter.unusedSimpArgs false
set_option linter.unusedVariables false
set_option linter.unusedVariables false
set_option linter.unusedSimpArgs false
set_option maxRecDepth 10000
namespace Go.Proofs
open Go Go.Ab
attribute [local irreducible] QR QV OE aops aw dsoup dsoupM dalloc dallocM thn inBlk jsoup jch lsoup
open Go.H
theorem place_ib (o : Option Nat) : ∃ i b, placeV o = .tup [iv i, bv b] := by
  cases o with
  | none => exact ⟨_, _, rfl⟩
  | some i => exact ⟨_, _, rfl⟩
theorem rBegin (h : Hist) (la : Lim 3000 h) (bl : Nat) (G : List Res) : ACall Tryz.prog 236 [.v (.pointer (some ⟨bl, 0, none⟩))] (.box bl 109 (lookN h) :: G) (fun r h' => h' = G ∧ r = placeV (placeP h 1)) := by
  refine acall_of_aw Tryz.func236 rfl rfl rfl ?_
  refine rn ?_
  refine aops_e rfl (oe_box rfl rfl rfl fun b1 => ?_)
  refine rn ?_
  refine aops_e rfl (oe_call rfl rfl (FCall.perm (pt1 _ _ _) (FCall.of_fun (rAt h (Nat.le_trans la.evs (by decide)) bl (.fn (.func 248) [] [.v (.pointer (some ⟨b1, 0, none⟩))]) rfl (.box b1 103 [.v (.pointer (some ⟨bl, 0, none⟩))] :: G) (fun k e => wrongP 1 e (h.evs.take k)) (fun k hk r1 r2 r3 r4 r5 => FCall.qt (h2 := G) (FCall.of_acall (fs := []) (cs := [.v (.pointer (some ⟨b1, 0, none⟩))]) (rBegin1 _ bl b1 h _ r1 r2 r3 r4 r5)) (.refl _))))) rfl ?_)
  rintro _ _ ⟨rfl, rfl⟩
  obtain ⟨pi, pb, hpv⟩ : ∃ i b, placeV (rowF (fun k e => wrongP 1 e (h.evs.take k)) 0 h.evs) = .tup [iv i, bv b] := place_ib _
  rw [hpv]
  refine rn ?_
  refine rq 1 ?_
  exact ⟨rfl, hpv.symm⟩
theorem rEnd (h : Hist) (la : Lim 3000 h) (bl : Nat) (G : List Res) : ACall Tryz.prog 238 [.v (.pointer (some ⟨bl, 0, none⟩))] (.box bl 109 (lookN h) :: G) (fun r h' => h' = G ∧ r = placeV (placeP h 2)) := by
  refine acall_of_aw Tryz.func238 rfl rfl rfl ?_
  refine rn ?_
  refine aops_e rfl (oe_box rfl rfl rfl fun b1 => ?_)
  refine rn ?_
  refine aops_e rfl (oe_call rfl rfl (FCall.perm (pt1 _ _ _) (FCall.of_fun (rAt h (Nat.le_trans la.evs (by decide)) bl (.fn (.func 249) [] [.v (.pointer (some ⟨b1, 0, none⟩))]) rfl (.box b1 103 [.v (.pointer (some ⟨bl, 0, none⟩))] :: G) (fun k e => wrongP 2 e (h.evs.take k)) (fun k hk r1 r2 r3 r4 r5 => FCall.qt (h2 := G) (FCall.of_acall (fs := []) (cs := [.v (.pointer (some ⟨b1, 0, none⟩))]) (rEnd1 _ bl b1 h _ r1 r2 r3 r4 r5)) (.refl _))))) rfl ?_)
  rintro _ _ ⟨rfl, rfl⟩
  obtain ⟨pi, pb, hpv⟩ : ∃ i b, placeV (rowF (fun k e => wrongP 2 e (h.evs.take k)) 0 h.evs) = .tup [iv i, bv b] := place_ib _
  rw [hpv]
  refine rn ?_
  refine rq 1 ?_
  exact ⟨rfl, hpv.symm⟩
theorem rCount (h : Hist) (la : Lim 3000 h) (bl : Nat) (G : List Res) : ACall Tryz.prog 239 [.v (.pointer (some ⟨bl, 0, none⟩))] (.box bl 109 (lookN h) :: G) (fun r h' => h' = G ∧ r = placeV (placeP h 3)) := by
  refine acall_of_aw Tryz.func239 rfl rfl rfl ?_
  refine rn ?_
  refine aops_e rfl (oe_box rfl rfl rfl fun b1 => ?_)
  refine rn ?_
  refine aops_e rfl (oe_call rfl rfl (FCall.perm (pt1 _ _ _) (FCall.of_fun (rAt h (Nat.le_trans la.evs (by decide)) bl (.fn (.func 250) [] [.v (.pointer (some ⟨b1, 0, none⟩))]) rfl (.box b1 103 [.v (.pointer (some ⟨bl, 0, none⟩))] :: G) (fun k e => wrongP 3 e (h.evs.take k)) (fun k hk r1 r2 r3 r4 r5 => FCall.qt (h2 := G) (FCall.of_acall (fs := []) (cs := [.v (.pointer (some ⟨b1, 0, none⟩))]) (rCount1 _ bl b1 h _ r1 r2 r3 r4 r5 (by have := la.evs; simp; omega))) (.refl _))))) rfl ?_)
  rintro _ _ ⟨rfl, rfl⟩
  obtain ⟨pi, pb, hpv⟩ : ∃ i b, placeV (rowF (fun k e => wrongP 3 e (h.evs.take k)) 0 h.evs) = .tup [iv i, bv b] := place_ib _
  rw [hpv]
  refine rn ?_
  refine rq 1 ?_
  exact ⟨rfl, hpv.symm⟩
theorem rWritten (h : Hist) (la : Lim 3000 h) (bl : Nat) (G : List Res) : ACall Tryz.prog 240 [.v (.pointer (some ⟨bl, 0, none⟩))] (.box bl 109 (lookN h) :: G) (fun r h' => h' = G ∧ r = placeV (placeP h 4)) := by
  refine acall_of_aw Tryz.func240 rfl rfl rfl ?_
  refine rn ?_
  refine aops_e rfl (oe_box rfl rfl rfl fun b1 => ?_)
  refine rn ?_
  refine aops_e rfl (oe_call rfl rfl (FCall.perm (pt1 _ _ _) (FCall.of_fun (rAt h (Nat.le_trans la.evs (by decide)) bl (.fn (.func 251) [] [.v (.pointer (some ⟨b1, 0, none⟩))]) rfl (.box b1 103 [.v (.pointer (some ⟨bl, 0, none⟩))] :: G) (fun k e => wrongP 4 e (h.evs.take k)) (fun k hk r1 r2 r3 r4 r5 => FCall.qt (h2 := G) (FCall.of_acall (fs := []) (cs := [.v (.pointer (some ⟨b1, 0, none⟩))]) (rWritten1 _ bl b1 h _ r1 r2 r3 r4 r5 (Nat.le_trans (la.scans _ (List.getElem_mem hk)) (by decide)))) (.refl _))))) rfl ?_)
  rintro _ _ ⟨rfl, rfl⟩
  obtain ⟨pi, pb, hpv⟩ : ∃ i b, placeV (rowF (fun k e => wrongP 4 e (h.evs.take k)) 0 h.evs) = .tup [iv i, bv b] := place_ib _
  rw [hpv]
  refine rn ?_
  refine rq 1 ?_
  exact ⟨rfl, hpv.symm⟩
theorem rOwn (h : Hist) (la : Lim 3000 h) (bl : Nat) (G : List Res) : ACall Tryz.prog 241 [.v (.pointer (some ⟨bl, 0, none⟩))] (.box bl 109 (lookN h) :: G) (fun r h' => h' = G ∧ r = placeV (placeP h 5)) := by
  refine acall_of_aw Tryz.func241 rfl rfl rfl ?_
  refine rn ?_
  refine aops_e rfl (oe_box rfl rfl rfl fun b1 => ?_)
  refine rn ?_
  refine aops_e rfl (oe_call rfl rfl (FCall.perm (pt1 _ _ _) (FCall.of_fun (rAt h (Nat.le_trans la.evs (by decide)) bl (.fn (.func 254) [] [.v (.pointer (some ⟨b1, 0, none⟩))]) rfl (.box b1 103 [.v (.pointer (some ⟨bl, 0, none⟩))] :: G) (fun k e => wrongP 5 e (h.evs.take k)) (fun k hk r1 r2 r3 r4 r5 => FCall.qt (h2 := G) (FCall.of_acall (fs := []) (cs := [.v (.pointer (some ⟨b1, 0, none⟩))]) (rOwn1 _ bl b1 h _ r1 r2 r3 r4 r5 (Nat.le_trans (la.scans _ (List.getElem_mem hk)) (by decide)))) (.refl _))))) rfl ?_)
  rintro _ _ ⟨rfl, rfl⟩
  obtain ⟨pi, pb, hpv⟩ : ∃ i b, placeV (rowF (fun k e => wrongP 5 e (h.evs.take k)) 0 h.evs) = .tup [iv i, bv b] := place_ib _
  rw [hpv]
  refine rn ?_
  refine rq 1 ?_
  exact ⟨rfl, hpv.symm⟩
theorem rScan (h : Hist) (la : Lim 3000 h) (bl : Nat) (G : List Res) : ACall Tryz.prog 242 [.v (.pointer (some ⟨bl, 0, none⟩))] (.box bl 109 (lookN h) :: G) (fun r h' => h' = G ∧ r = placeV (placeP h 6)) := by
  refine acall_of_aw Tryz.func242 rfl rfl rfl ?_
  refine rn ?_
  refine aops_e rfl (oe_call rfl rfl (id (FCall.of_fun (rAt h (Nat.le_trans la.evs (by decide)) bl (.fn (.func 256) [] []) rfl (G) (fun k e => wrongP 6 e (h.evs.take k)) (fun k hk r1 r2 r3 r4 r5 => FCall.pure (R := fun r => r = bv _) (FCall.of_acall (fs := []) (cs := []) (rScan1 _ (Nat.le_trans (la.scans _ (List.getElem_mem hk)) (by decide)))))))) rfl ?_)
  rintro _ _ ⟨rfl, rfl⟩
  obtain ⟨pi, pb, hpv⟩ : ∃ i b, placeV (rowF (fun k e => wrongP 6 e (h.evs.take k)) 0 h.evs) = .tup [iv i, bv b] := place_ib _
  rw [hpv]
  refine rn ?_
  refine rq 0 ?_
  exact ⟨rfl, hpv.symm⟩
end Go.Proofs
