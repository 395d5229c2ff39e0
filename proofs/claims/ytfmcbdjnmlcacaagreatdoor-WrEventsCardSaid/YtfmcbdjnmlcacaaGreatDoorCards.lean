/-
  DERIVED. GIVEN WITH THE SEED: THE CARDS: each row of YtfmcbdjnmlcacaaGreatDoorRows.lean that lists a variable, with what it lists TIED to the program's text (the seventh form; the later family's looks); each row that meets fmt, with fmt's text TOLD by the authors' own Lean function (tested against real Go, not proved from fmt's source: count such statements apart). THE CARD IS WHAT COUNTS. Prove the row's statement (the work); the ties are given (YtfmcbdjnmlcacaaGreatDoorTie.lean); close each card by the builder's one call (the guide's Derived/Test/ToyasCard.lean, 'card_holds'). Laid BY PROGRAM, IN A SANDBOX (cutbox-door.mjs). By AI agents, Wed Nov 11 2026. No macro, syntax, notation, axiom, sorry.
-/
import Derived.Test.YtfmcbdjnmlcacaaGreatDoorRows
import GoSem.ClaimSeven
namespace Go.Proofs.YtfmcbdjnmlcacaaGreatDoor
namespace Rows

/-- THE TIED CARD OF 'yardarmlaw18.WwAll'. -/
def wwAllCard : Claim7 := { stood := { row := wwAllRow, standIns := [], harness := (true, "e75decfa0afc068ae3bb9165b38fd3c9fcb0737252637e1168dc27f523ea6426"), looks := false }, kinds := [], alts := [], laidByText := true, laidKinds := [.data, .data, .funcs, .pinned], laidTests := true, laidLooks := .later }
def WwAllCardSaid : Prop := Claim7.holds Tryz.pinned (.plain (OpenSpec.ofChange wwAllSpec)) wwAllCard

/-- THE TIED CARD OF 'yardarmlaw18.WwJustified'. -/
def wwJustifiedCard : Claim7 := { stood := { row := wwJustifiedRow, standIns := [], harness := (true, "e75decfa0afc068ae3bb9165b38fd3c9fcb0737252637e1168dc27f523ea6426"), looks := false }, kinds := [], alts := [], laidByText := true, laidKinds := [.data, .data, .funcs, .pinned], laidTests := true, laidLooks := .later }
def WwJustifiedCardSaid : Prop := Claim7.holds Tryz.pinned (.plain (OpenSpec.ofChange wwJustifiedSpec)) wwJustifiedCard

/-- THE TIED CARD OF 'yardarmlaw20.RwAll'. -/
def rwAllCard : Claim7 := { stood := { row := rwAllRow, standIns := [], harness := (true, "e75decfa0afc068ae3bb9165b38fd3c9fcb0737252637e1168dc27f523ea6426"), looks := false }, kinds := [], alts := [], laidByText := true, laidKinds := [.data, .data, .funcs, .funcs, .mapped, .pinned], laidTests := true, laidLooks := .later }
def RwAllCardSaid : Prop := Claim7.holds Tryz.pinned (.plain (OpenSpec.ofChange rwAllSpec)) rwAllCard

/-- THE TIED CARD OF 'yardarmlaw20.RwOver'. -/
def rwOverCard : Claim7 := { stood := { row := rwOverRow, standIns := [], harness := (true, "e75decfa0afc068ae3bb9165b38fd3c9fcb0737252637e1168dc27f523ea6426"), looks := false }, kinds := [], alts := [], laidByText := true, laidKinds := [.data, .data, .funcs, .funcs, .mapped, .pinned], laidTests := true, laidLooks := .later }
def RwOverCardSaid : Prop := Claim7.holds Tryz.pinned (.plain (OpenSpec.ofChange rwOverSpec)) rwOverCard

/-- THE TIED CARD OF 'yardarmlaw20.RwScans'. -/
def rwScansCard : Claim7 := { stood := { row := rwScansRow, standIns := [], harness := (true, "e75decfa0afc068ae3bb9165b38fd3c9fcb0737252637e1168dc27f523ea6426"), looks := false }, kinds := [], alts := [], laidByText := true, laidKinds := [.data, .data, .funcs, .funcs, .mapped, .pinned], laidTests := true, laidLooks := .later }
def RwScansCardSaid : Prop := Claim7.holds Tryz.pinned (.plain (OpenSpec.ofChange rwScansSpec)) rwScansCard

/-- THE TIED CARD OF 'yardarmlaw20.RwJustified'. -/
def rwJustifiedCard : Claim7 := { stood := { row := rwJustifiedRow, standIns := [], harness := (true, "e75decfa0afc068ae3bb9165b38fd3c9fcb0737252637e1168dc27f523ea6426"), looks := false }, kinds := [], alts := [], laidByText := true, laidKinds := [.data, .data, .funcs, .funcs, .mapped, .pinned], laidTests := true, laidLooks := .later }
def RwJustifiedCardSaid : Prop := Claim7.holds Tryz.pinned (.plain (OpenSpec.ofChange rwJustifiedSpec)) rwJustifiedCard

/-- THE TIED CARD OF 'yardarmlaw20.RwItems'. -/
def rwItemsCard : Claim7 := { stood := { row := rwItemsRow, standIns := [], harness := (true, "e75decfa0afc068ae3bb9165b38fd3c9fcb0737252637e1168dc27f523ea6426"), looks := false }, kinds := [], alts := [], laidByText := true, laidKinds := [.data, .data, .funcs, .funcs, .mapped, .pinned], laidTests := true, laidLooks := .later }
def RwItemsCardSaid : Prop := Claim7.holds Tryz.pinned (.plain (OpenSpec.ofChange rwItemsSpec)) rwItemsCard

/-- THE TIED CARD OF 'yardarmlaw19.WrTells'. -/
def wrTellsCard : Claim7 := { stood := { row := wrTellsRow, standIns := [], harness := (true, "e75decfa0afc068ae3bb9165b38fd3c9fcb0737252637e1168dc27f523ea6426"), looks := false }, kinds := [], alts := [], laidByText := true, laidKinds := [.data, .data, .funcs, .pinned], laidTests := true, laidLooks := .later }
def WrTellsCardSaid : Prop := Claim7.holds Tryz.pinned (.plain (OpenSpec.ofChange wrTellsSpec)) wrTellsCard

/-- THE TIED CARD OF 'yardarmlaw19.WrEvents'. -/
def wrEventsCard : Claim7 := { stood := { row := wrEventsRow, standIns := [], harness := (true, "e75decfa0afc068ae3bb9165b38fd3c9fcb0737252637e1168dc27f523ea6426"), looks := false }, kinds := [], alts := [], laidByText := true, laidKinds := [.data, .data, .funcs, .pinned], laidTests := true, laidLooks := .later }
def WrEventsCardSaid : Prop := Claim7.holds Tryz.pinned (.plain (OpenSpec.ofChange wrEventsSpec)) wrEventsCard

/-- THE TIED CARD OF 'yardarmlaw19.WrBare'. -/
def wrBareCard : Claim7 := { stood := { row := wrBareRow, standIns := [], harness := (true, "e75decfa0afc068ae3bb9165b38fd3c9fcb0737252637e1168dc27f523ea6426"), looks := false }, kinds := [], alts := [], laidByText := true, laidKinds := [.data, .data, .funcs, .pinned], laidTests := true, laidLooks := .later }
def WrBareCardSaid : Prop := Claim7.holds Tryz.pinned (.plain (OpenSpec.ofChange wrBareSpec)) wrBareCard

/-- THE TIED CARD OF 'yardarmlaw19.WrJustifies'. -/
def wrJustifiesCard : Claim7 := { stood := { row := wrJustifiesRow, standIns := [], harness := (true, "e75decfa0afc068ae3bb9165b38fd3c9fcb0737252637e1168dc27f523ea6426"), looks := false }, kinds := [], alts := [], laidByText := true, laidKinds := [.data, .data, .funcs, .pinned], laidTests := true, laidLooks := .later }
def WrJustifiesCardSaid : Prop := Claim7.holds Tryz.pinned (.plain (OpenSpec.ofChange wrJustifiesSpec)) wrJustifiesCard

/-- THE SECOND FORM's CARD OF 'yardarmlaw18.WwAll'. -/
def wwAllUptoCard : Claim7 := { stood := { row := wwAllUptoRow, standIns := [], harness := (true, "e75decfa0afc068ae3bb9165b38fd3c9fcb0737252637e1168dc27f523ea6426"), looks := false }, kinds := [], alts := [], laidByText := true, laidKinds := [.data, .data, .funcs, .pinned], laidTests := true, laidLooks := .later }
def WwAllUptoCardSaid : Prop := Claim7.holds Tryz.pinned (.plain (OpenSpec.upto wwAllSpec)) wwAllUptoCard

/-- THE SECOND FORM's CARD OF 'yardarmlaw18.WwJustified'. -/
def wwJustifiedUptoCard : Claim7 := { stood := { row := wwJustifiedUptoRow, standIns := [], harness := (true, "e75decfa0afc068ae3bb9165b38fd3c9fcb0737252637e1168dc27f523ea6426"), looks := false }, kinds := [], alts := [], laidByText := true, laidKinds := [.data, .data, .funcs, .pinned], laidTests := true, laidLooks := .later }
def WwJustifiedUptoCardSaid : Prop := Claim7.holds Tryz.pinned (.plain (OpenSpec.upto wwJustifiedSpec)) wwJustifiedUptoCard

/-- THE SECOND FORM's CARD OF 'yardarmlaw20.RwAll'. -/
def rwAllUptoCard : Claim7 := { stood := { row := rwAllUptoRow, standIns := [], harness := (true, "e75decfa0afc068ae3bb9165b38fd3c9fcb0737252637e1168dc27f523ea6426"), looks := false }, kinds := [], alts := [], laidByText := true, laidKinds := [.data, .data, .funcs, .funcs, .mapped, .pinned], laidTests := true, laidLooks := .later }
def RwAllUptoCardSaid : Prop := Claim7.holds Tryz.pinned (.plain (OpenSpec.upto rwAllSpec)) rwAllUptoCard

/-- THE SECOND FORM's CARD OF 'yardarmlaw20.RwOver'. -/
def rwOverUptoCard : Claim7 := { stood := { row := rwOverUptoRow, standIns := [], harness := (true, "e75decfa0afc068ae3bb9165b38fd3c9fcb0737252637e1168dc27f523ea6426"), looks := false }, kinds := [], alts := [], laidByText := true, laidKinds := [.data, .data, .funcs, .funcs, .mapped, .pinned], laidTests := true, laidLooks := .later }
def RwOverUptoCardSaid : Prop := Claim7.holds Tryz.pinned (.plain (OpenSpec.upto rwOverSpec)) rwOverUptoCard

/-- THE SECOND FORM's CARD OF 'yardarmlaw20.RwScans'. -/
def rwScansUptoCard : Claim7 := { stood := { row := rwScansUptoRow, standIns := [], harness := (true, "e75decfa0afc068ae3bb9165b38fd3c9fcb0737252637e1168dc27f523ea6426"), looks := false }, kinds := [], alts := [], laidByText := true, laidKinds := [.data, .data, .funcs, .funcs, .mapped, .pinned], laidTests := true, laidLooks := .later }
def RwScansUptoCardSaid : Prop := Claim7.holds Tryz.pinned (.plain (OpenSpec.upto rwScansSpec)) rwScansUptoCard

/-- THE SECOND FORM's CARD OF 'yardarmlaw20.RwJustified'. -/
def rwJustifiedUptoCard : Claim7 := { stood := { row := rwJustifiedUptoRow, standIns := [], harness := (true, "e75decfa0afc068ae3bb9165b38fd3c9fcb0737252637e1168dc27f523ea6426"), looks := false }, kinds := [], alts := [], laidByText := true, laidKinds := [.data, .data, .funcs, .funcs, .mapped, .pinned], laidTests := true, laidLooks := .later }
def RwJustifiedUptoCardSaid : Prop := Claim7.holds Tryz.pinned (.plain (OpenSpec.upto rwJustifiedSpec)) rwJustifiedUptoCard

/-- THE SECOND FORM's CARD OF 'yardarmlaw20.RwItems'. -/
def rwItemsUptoCard : Claim7 := { stood := { row := rwItemsUptoRow, standIns := [], harness := (true, "e75decfa0afc068ae3bb9165b38fd3c9fcb0737252637e1168dc27f523ea6426"), looks := false }, kinds := [], alts := [], laidByText := true, laidKinds := [.data, .data, .funcs, .funcs, .mapped, .pinned], laidTests := true, laidLooks := .later }
def RwItemsUptoCardSaid : Prop := Claim7.holds Tryz.pinned (.plain (OpenSpec.upto rwItemsSpec)) rwItemsUptoCard

/-- THE SECOND FORM's CARD OF 'yardarmlaw19.WrTells'. -/
def wrTellsUptoCard : Claim7 := { stood := { row := wrTellsUptoRow, standIns := [], harness := (true, "e75decfa0afc068ae3bb9165b38fd3c9fcb0737252637e1168dc27f523ea6426"), looks := false }, kinds := [], alts := [], laidByText := true, laidKinds := [.data, .data, .funcs, .pinned], laidTests := true, laidLooks := .later }
def WrTellsUptoCardSaid : Prop := Claim7.holds Tryz.pinned (.plain (OpenSpec.upto wrTellsSpec)) wrTellsUptoCard

/-- THE SECOND FORM's CARD OF 'yardarmlaw19.WrEvents'. -/
def wrEventsUptoCard : Claim7 := { stood := { row := wrEventsUptoRow, standIns := [], harness := (true, "e75decfa0afc068ae3bb9165b38fd3c9fcb0737252637e1168dc27f523ea6426"), looks := false }, kinds := [], alts := [], laidByText := true, laidKinds := [.data, .data, .funcs, .pinned], laidTests := true, laidLooks := .later }
def WrEventsUptoCardSaid : Prop := Claim7.holds Tryz.pinned (.plain (OpenSpec.upto wrEventsSpec)) wrEventsUptoCard

/-- THE SECOND FORM's CARD OF 'yardarmlaw19.WrBare'. -/
def wrBareUptoCard : Claim7 := { stood := { row := wrBareUptoRow, standIns := [], harness := (true, "e75decfa0afc068ae3bb9165b38fd3c9fcb0737252637e1168dc27f523ea6426"), looks := false }, kinds := [], alts := [], laidByText := true, laidKinds := [.data, .data, .funcs, .pinned], laidTests := true, laidLooks := .later }
def WrBareUptoCardSaid : Prop := Claim7.holds Tryz.pinned (.plain (OpenSpec.upto wrBareSpec)) wrBareUptoCard

/-- THE SECOND FORM's CARD OF 'yardarmlaw19.WrJustifies'. -/
def wrJustifiesUptoCard : Claim7 := { stood := { row := wrJustifiesUptoRow, standIns := [], harness := (true, "e75decfa0afc068ae3bb9165b38fd3c9fcb0737252637e1168dc27f523ea6426"), looks := false }, kinds := [], alts := [], laidByText := true, laidKinds := [.data, .data, .funcs, .pinned], laidTests := true, laidLooks := .later }
def WrJustifiesUptoCardSaid : Prop := Claim7.holds Tryz.pinned (.plain (OpenSpec.upto wrJustifiesSpec)) wrJustifiesUptoCard
end Rows
end Go.Proofs.YtfmcbdjnmlcacaaGreatDoor
