/-
  DERIVED. GIVEN WITH THE SEED: THE CARDS: each row of YtkoaoaogmlpocaaGreatDoorRows.lean that lists a variable, with what it lists TIED to the program's text (the seventh form; the later family's looks); each row that meets fmt, with fmt's text TOLD by the authors' own Lean function (tested against real Go, not proved from fmt's source: count such statements apart). THE CARD IS WHAT COUNTS. Prove the row's statement (the work); the ties are given (YtkoaoaogmlpocaaGreatDoorTie.lean); close each card by the builder's one call (the guide's Derived/Test/ToyasCard.lean, 'card_holds'). Laid BY PROGRAM, IN A SANDBOX (cutbox-door.mjs). By AI agents, Wed Nov 11 2026. No macro, syntax, notation, axiom, sorry.
-/
import Derived.Test.YtkoaoaogmlpocaaGreatDoorRows
import GoSem.ClaimSeven
namespace Go.Proofs.YtkoaoaogmlpocaaGreatDoor
namespace Rows

/-- THE TIED CARD OF 'yardarmlaw23.DirtyTells'. -/
def dirtyTellsCard : Claim7 := { stood := { row := dirtyTellsRow, standIns := [], harness := (true, "78f2189d6259d88addc4bbdea27a93c2760e1419ba7dd73552ad1e9889450292"), looks := false }, kinds := [], alts := [], laidByText := true, laidKinds := [.data, .data, .funcs, .pinned], laidTests := true, laidLooks := .later }
def DirtyTellsCardSaid : Prop := Claim7.holds Tryz.pinned (.plain (OpenSpec.ofChange dirtyTellsSpec)) dirtyTellsCard

/-- THE TIED CARD OF 'yardarmlaw23.DirtyIs'. -/
def dirtyIsCard : Claim7 := { stood := { row := dirtyIsRow, standIns := [], harness := (true, "78f2189d6259d88addc4bbdea27a93c2760e1419ba7dd73552ad1e9889450292"), looks := false }, kinds := [], alts := [], laidByText := true, laidKinds := [.data, .data, .funcs, .pinned], laidTests := true, laidLooks := .later }
def DirtyIsCardSaid : Prop := Claim7.holds Tryz.pinned (.plain (OpenSpec.ofChange dirtyIsSpec)) dirtyIsCard

/-- THE TIED CARD OF 'yardarmlaw23.DirtyEvents'. -/
def dirtyEventsCard : Claim7 := { stood := { row := dirtyEventsRow, standIns := [], harness := (true, "78f2189d6259d88addc4bbdea27a93c2760e1419ba7dd73552ad1e9889450292"), looks := false }, kinds := [], alts := [], laidByText := true, laidKinds := [.data, .data, .funcs, .pinned], laidTests := true, laidLooks := .later }
def DirtyEventsCardSaid : Prop := Claim7.holds Tryz.pinned (.plain (OpenSpec.ofChange dirtyEventsSpec)) dirtyEventsCard

/-- THE TIED CARD OF 'yardarmlaw23.DirtyRises'. -/
def dirtyRisesCard : Claim7 := { stood := { row := dirtyRisesRow, standIns := [], harness := (true, "78f2189d6259d88addc4bbdea27a93c2760e1419ba7dd73552ad1e9889450292"), looks := false }, kinds := [], alts := [], laidByText := true, laidKinds := [.data, .data, .funcs, .pinned], laidTests := true, laidLooks := .later }
def DirtyRisesCardSaid : Prop := Claim7.holds Tryz.pinned (.plain (OpenSpec.ofChange dirtyRisesSpec)) dirtyRisesCard

/-- THE TIED CARD OF 'yardarmlaw18.WwOrders'. -/
def wwOrdersCard : Claim7 := { stood := { row := wwOrdersRow, standIns := [], harness := (true, "78f2189d6259d88addc4bbdea27a93c2760e1419ba7dd73552ad1e9889450292"), looks := false }, kinds := [], alts := [], laidByText := true, laidKinds := [.data, .data, .funcs, .pinned], laidTests := true, laidLooks := .later }
def WwOrdersCardSaid : Prop := Claim7.holds Tryz.pinned (.plain (OpenSpec.ofChange wwOrdersSpec)) wwOrdersCard

/-- THE TIED CARD OF 'yardarmlaw18.WwOne'. -/
def wwOneCard : Claim7 := { stood := { row := wwOneRow, standIns := [], harness := (true, "78f2189d6259d88addc4bbdea27a93c2760e1419ba7dd73552ad1e9889450292"), looks := false }, kinds := [], alts := [], laidByText := true, laidKinds := [.data, .data, .funcs, .pinned], laidTests := true, laidLooks := .later }
def WwOneCardSaid : Prop := Claim7.holds Tryz.pinned (.plain (OpenSpec.ofChange wwOneSpec)) wwOneCard

/-- THE TIED CARD OF 'yardarmlaw18.WwAll'. -/
def wwAllCard : Claim7 := { stood := { row := wwAllRow, standIns := [], harness := (true, "78f2189d6259d88addc4bbdea27a93c2760e1419ba7dd73552ad1e9889450292"), looks := false }, kinds := [], alts := [], laidByText := true, laidKinds := [.data, .data, .funcs, .pinned], laidTests := true, laidLooks := .later }
def WwAllCardSaid : Prop := Claim7.holds Tryz.pinned (.plain (OpenSpec.ofChange wwAllSpec)) wwAllCard

/-- THE TIED CARD OF 'yardarmlaw18.WwJustified'. -/
def wwJustifiedCard : Claim7 := { stood := { row := wwJustifiedRow, standIns := [], harness := (true, "78f2189d6259d88addc4bbdea27a93c2760e1419ba7dd73552ad1e9889450292"), looks := false }, kinds := [], alts := [], laidByText := true, laidKinds := [.data, .data, .funcs, .pinned], laidTests := true, laidLooks := .later }
def WwJustifiedCardSaid : Prop := Claim7.holds Tryz.pinned (.plain (OpenSpec.ofChange wwJustifiedSpec)) wwJustifiedCard

/-- THE TIED CARD OF 'yardarmlaw18.WwChains'. -/
def wwChainsCard : Claim7 := { stood := { row := wwChainsRow, standIns := [], harness := (true, "78f2189d6259d88addc4bbdea27a93c2760e1419ba7dd73552ad1e9889450292"), looks := false }, kinds := [], alts := [], laidByText := true, laidKinds := [.data, .data, .funcs, .pinned], laidTests := true, laidLooks := .later }
def WwChainsCardSaid : Prop := Claim7.holds Tryz.pinned (.plain (OpenSpec.ofChange wwChainsSpec)) wwChainsCard

/-- THE TIED CARD OF 'yardarmlaw18.WwParts'. -/
def wwPartsCard : Claim7 := { stood := { row := wwPartsRow, standIns := [], harness := (true, "78f2189d6259d88addc4bbdea27a93c2760e1419ba7dd73552ad1e9889450292"), looks := false }, kinds := [], alts := [], laidByText := true, laidKinds := [.data, .data, .funcs, .pinned], laidTests := true, laidLooks := .later }
def WwPartsCardSaid : Prop := Claim7.holds Tryz.pinned (.plain (OpenSpec.ofChange wwPartsSpec)) wwPartsCard

/-- THE SECOND FORM's CARD OF 'yardarmlaw23.DirtyTells'. -/
def dirtyTellsUptoCard : Claim7 := { stood := { row := dirtyTellsUptoRow, standIns := [], harness := (true, "78f2189d6259d88addc4bbdea27a93c2760e1419ba7dd73552ad1e9889450292"), looks := false }, kinds := [], alts := [], laidByText := true, laidKinds := [.data, .data, .funcs, .pinned], laidTests := true, laidLooks := .later }
def DirtyTellsUptoCardSaid : Prop := Claim7.holds Tryz.pinned (.plain (OpenSpec.upto dirtyTellsSpec)) dirtyTellsUptoCard

/-- THE SECOND FORM's CARD OF 'yardarmlaw23.DirtyIs'. -/
def dirtyIsUptoCard : Claim7 := { stood := { row := dirtyIsUptoRow, standIns := [], harness := (true, "78f2189d6259d88addc4bbdea27a93c2760e1419ba7dd73552ad1e9889450292"), looks := false }, kinds := [], alts := [], laidByText := true, laidKinds := [.data, .data, .funcs, .pinned], laidTests := true, laidLooks := .later }
def DirtyIsUptoCardSaid : Prop := Claim7.holds Tryz.pinned (.plain (OpenSpec.upto dirtyIsSpec)) dirtyIsUptoCard

/-- THE SECOND FORM's CARD OF 'yardarmlaw23.DirtyEvents'. -/
def dirtyEventsUptoCard : Claim7 := { stood := { row := dirtyEventsUptoRow, standIns := [], harness := (true, "78f2189d6259d88addc4bbdea27a93c2760e1419ba7dd73552ad1e9889450292"), looks := false }, kinds := [], alts := [], laidByText := true, laidKinds := [.data, .data, .funcs, .pinned], laidTests := true, laidLooks := .later }
def DirtyEventsUptoCardSaid : Prop := Claim7.holds Tryz.pinned (.plain (OpenSpec.upto dirtyEventsSpec)) dirtyEventsUptoCard

/-- THE SECOND FORM's CARD OF 'yardarmlaw23.DirtyRises'. -/
def dirtyRisesUptoCard : Claim7 := { stood := { row := dirtyRisesUptoRow, standIns := [], harness := (true, "78f2189d6259d88addc4bbdea27a93c2760e1419ba7dd73552ad1e9889450292"), looks := false }, kinds := [], alts := [], laidByText := true, laidKinds := [.data, .data, .funcs, .pinned], laidTests := true, laidLooks := .later }
def DirtyRisesUptoCardSaid : Prop := Claim7.holds Tryz.pinned (.plain (OpenSpec.upto dirtyRisesSpec)) dirtyRisesUptoCard

/-- THE SECOND FORM's CARD OF 'yardarmlaw18.WwOrders'. -/
def wwOrdersUptoCard : Claim7 := { stood := { row := wwOrdersUptoRow, standIns := [], harness := (true, "78f2189d6259d88addc4bbdea27a93c2760e1419ba7dd73552ad1e9889450292"), looks := false }, kinds := [], alts := [], laidByText := true, laidKinds := [.data, .data, .funcs, .pinned], laidTests := true, laidLooks := .later }
def WwOrdersUptoCardSaid : Prop := Claim7.holds Tryz.pinned (.plain (OpenSpec.upto wwOrdersSpec)) wwOrdersUptoCard

/-- THE SECOND FORM's CARD OF 'yardarmlaw18.WwOne'. -/
def wwOneUptoCard : Claim7 := { stood := { row := wwOneUptoRow, standIns := [], harness := (true, "78f2189d6259d88addc4bbdea27a93c2760e1419ba7dd73552ad1e9889450292"), looks := false }, kinds := [], alts := [], laidByText := true, laidKinds := [.data, .data, .funcs, .pinned], laidTests := true, laidLooks := .later }
def WwOneUptoCardSaid : Prop := Claim7.holds Tryz.pinned (.plain (OpenSpec.upto wwOneSpec)) wwOneUptoCard

/-- THE SECOND FORM's CARD OF 'yardarmlaw18.WwAll'. -/
def wwAllUptoCard : Claim7 := { stood := { row := wwAllUptoRow, standIns := [], harness := (true, "78f2189d6259d88addc4bbdea27a93c2760e1419ba7dd73552ad1e9889450292"), looks := false }, kinds := [], alts := [], laidByText := true, laidKinds := [.data, .data, .funcs, .pinned], laidTests := true, laidLooks := .later }
def WwAllUptoCardSaid : Prop := Claim7.holds Tryz.pinned (.plain (OpenSpec.upto wwAllSpec)) wwAllUptoCard

/-- THE SECOND FORM's CARD OF 'yardarmlaw18.WwJustified'. -/
def wwJustifiedUptoCard : Claim7 := { stood := { row := wwJustifiedUptoRow, standIns := [], harness := (true, "78f2189d6259d88addc4bbdea27a93c2760e1419ba7dd73552ad1e9889450292"), looks := false }, kinds := [], alts := [], laidByText := true, laidKinds := [.data, .data, .funcs, .pinned], laidTests := true, laidLooks := .later }
def WwJustifiedUptoCardSaid : Prop := Claim7.holds Tryz.pinned (.plain (OpenSpec.upto wwJustifiedSpec)) wwJustifiedUptoCard

/-- THE SECOND FORM's CARD OF 'yardarmlaw18.WwChains'. -/
def wwChainsUptoCard : Claim7 := { stood := { row := wwChainsUptoRow, standIns := [], harness := (true, "78f2189d6259d88addc4bbdea27a93c2760e1419ba7dd73552ad1e9889450292"), looks := false }, kinds := [], alts := [], laidByText := true, laidKinds := [.data, .data, .funcs, .pinned], laidTests := true, laidLooks := .later }
def WwChainsUptoCardSaid : Prop := Claim7.holds Tryz.pinned (.plain (OpenSpec.upto wwChainsSpec)) wwChainsUptoCard

/-- THE SECOND FORM's CARD OF 'yardarmlaw18.WwParts'. -/
def wwPartsUptoCard : Claim7 := { stood := { row := wwPartsUptoRow, standIns := [], harness := (true, "78f2189d6259d88addc4bbdea27a93c2760e1419ba7dd73552ad1e9889450292"), looks := false }, kinds := [], alts := [], laidByText := true, laidKinds := [.data, .data, .funcs, .pinned], laidTests := true, laidLooks := .later }
def WwPartsUptoCardSaid : Prop := Claim7.holds Tryz.pinned (.plain (OpenSpec.upto wwPartsSpec)) wwPartsUptoCard
end Rows
end Go.Proofs.YtkoaoaogmlpocaaGreatDoor
