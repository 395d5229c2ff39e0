/-
  DERIVED. GIVEN WITH THE SEED: THE CARDS: each row of YtcaijocpofcbdaaGreatDoorRows.lean that lists a variable, with what it lists TIED to the program's text (the seventh form; the later family's looks); each row that meets fmt, with fmt's text TOLD by the authors' own Lean function (tested against real Go, not proved from fmt's source: count such statements apart). THE CARD IS WHAT COUNTS. Prove the row's statement (the work); the ties are given (YtcaijocpofcbdaaGreatDoorTie.lean); close each card by the builder's one call (the guide's Derived/Test/ToyasCard.lean, 'card_holds'). Laid BY PROGRAM, IN A SANDBOX (cutbox-door.mjs). By AI agents, Wed Nov 11 2026. No macro, syntax, notation, axiom, sorry.
-/
import Derived.Test.YtcaijocpofcbdaaGreatDoorRows
import GoSem.ClaimSeven
namespace Go.Proofs.YtcaijocpofcbdaaGreatDoor
namespace Rows

/-- THE TIED CARD OF 'yardarmlaw26.SessionFirst'. -/
def sessionFirstCard : Claim7 := { stood := { row := sessionFirstRow, standIns := [], harness := (true, "aa5e802f5c4de50cf7e13028c1fa2353de24301df03f5f278f1cf2d1448f27b1"), looks := false }, kinds := [], alts := [], laidByText := true, laidKinds := [.data, .data, .funcs, .funcs, .pinned], laidTests := true, laidLooks := .later }
def SessionFirstCardSaid : Prop := Claim7.holds Tryz.pinned (.plain (OpenSpec.ofChange sessionFirstSpec)) sessionFirstCard

/-- THE TIED CARD OF 'yardarmlaw26.SessionAsked'. -/
def sessionAskedCard : Claim7 := { stood := { row := sessionAskedRow, standIns := [], harness := (true, "aa5e802f5c4de50cf7e13028c1fa2353de24301df03f5f278f1cf2d1448f27b1"), looks := false }, kinds := [], alts := [], laidByText := true, laidKinds := [.data, .data, .funcs, .funcs, .pinned], laidTests := true, laidLooks := .later }
def SessionAskedCardSaid : Prop := Claim7.holds Tryz.pinned (.plain (OpenSpec.ofChange sessionAskedSpec)) sessionAskedCard

/-- THE TIED CARD OF 'yardarmlaw26.SessionHas'. -/
def sessionHasCard : Claim7 := { stood := { row := sessionHasRow, standIns := [], harness := (true, "aa5e802f5c4de50cf7e13028c1fa2353de24301df03f5f278f1cf2d1448f27b1"), looks := false }, kinds := [], alts := [], laidByText := true, laidKinds := [.data, .data, .funcs, .funcs, .pinned], laidTests := true, laidLooks := .later }
def SessionHasCardSaid : Prop := Claim7.holds Tryz.pinned (.plain (OpenSpec.ofChange sessionHasSpec)) sessionHasCard

/-- THE TIED CARD OF 'yardarmlaw26.SessionShows'. -/
def sessionShowsCard : Claim7 := { stood := { row := sessionShowsRow, standIns := [], harness := (true, "aa5e802f5c4de50cf7e13028c1fa2353de24301df03f5f278f1cf2d1448f27b1"), looks := false }, kinds := [], alts := [], laidByText := true, laidKinds := [.data, .data, .funcs, .funcs, .pinned], laidTests := true, laidLooks := .later }
def SessionShowsCardSaid : Prop := Claim7.holds Tryz.pinned (.plain (OpenSpec.ofChange sessionShowsSpec)) sessionShowsCard

/-- THE TIED CARD OF 'yardarmlaw27.GuardTells'. -/
def guardTellsCard : Claim7 := { stood := { row := guardTellsRow, standIns := [], harness := (true, "aa5e802f5c4de50cf7e13028c1fa2353de24301df03f5f278f1cf2d1448f27b1"), looks := false }, kinds := [], alts := [], laidByText := true, laidKinds := [.data, .data, .data, .funcs, .funcs, .pinned], laidTests := true, laidLooks := .later }
def GuardTellsCardSaid : Prop := Claim7.holds Tryz.pinned (.plain (OpenSpec.ofChange guardTellsSpec)) guardTellsCard

/-- THE TIED CARD OF 'yardarmlaw27.GuardAsks'. -/
def guardAsksCard : Claim7 := { stood := { row := guardAsksRow, standIns := [], harness := (true, "aa5e802f5c4de50cf7e13028c1fa2353de24301df03f5f278f1cf2d1448f27b1"), looks := false }, kinds := [], alts := [], laidByText := true, laidKinds := [.data, .data, .data, .funcs, .funcs, .pinned], laidTests := true, laidLooks := .later }
def GuardAsksCardSaid : Prop := Claim7.holds Tryz.pinned (.plain (OpenSpec.ofChange guardAsksSpec)) guardAsksCard

/-- THE TIED CARD OF 'yardarmlaw27.GuardGreatest'. -/
def guardGreatestCard : Claim7 := { stood := { row := guardGreatestRow, standIns := [], harness := (true, "aa5e802f5c4de50cf7e13028c1fa2353de24301df03f5f278f1cf2d1448f27b1"), looks := false }, kinds := [], alts := [], laidByText := true, laidKinds := [.data, .data, .data, .funcs, .funcs, .pinned], laidTests := true, laidLooks := .later }
def GuardGreatestCardSaid : Prop := Claim7.holds Tryz.pinned (.plain (OpenSpec.ofChange guardGreatestSpec)) guardGreatestCard

/-- THE TIED CARD OF 'yardarmlaw27.GuardRight'. -/
def guardRightCard : Claim7 := { stood := { row := guardRightRow, standIns := [], harness := (true, "aa5e802f5c4de50cf7e13028c1fa2353de24301df03f5f278f1cf2d1448f27b1"), looks := false }, kinds := [], alts := [], laidByText := true, laidKinds := [.data, .data, .data, .funcs, .funcs, .pinned], laidTests := true, laidLooks := .later }
def GuardRightCardSaid : Prop := Claim7.holds Tryz.pinned (.plain (OpenSpec.ofChange guardRightSpec)) guardRightCard

/-- THE TIED CARD OF 'yardarmlaw27.GuardBack'. -/
def guardBackCard : Claim7 := { stood := { row := guardBackRow, standIns := [], harness := (true, "aa5e802f5c4de50cf7e13028c1fa2353de24301df03f5f278f1cf2d1448f27b1"), looks := false }, kinds := [], alts := [], laidByText := true, laidKinds := [.data, .data, .data, .funcs, .funcs, .pinned], laidTests := true, laidLooks := .later }
def GuardBackCardSaid : Prop := Claim7.holds Tryz.pinned (.plain (OpenSpec.ofChange guardBackSpec)) guardBackCard

/-- THE SECOND FORM's CARD OF 'yardarmlaw26.SessionFirst'. -/
def sessionFirstUptoCard : Claim7 := { stood := { row := sessionFirstUptoRow, standIns := [], harness := (true, "aa5e802f5c4de50cf7e13028c1fa2353de24301df03f5f278f1cf2d1448f27b1"), looks := false }, kinds := [], alts := [], laidByText := true, laidKinds := [.data, .data, .funcs, .funcs, .pinned], laidTests := true, laidLooks := .later }
def SessionFirstUptoCardSaid : Prop := Claim7.holds Tryz.pinned (.plain (OpenSpec.upto sessionFirstSpec)) sessionFirstUptoCard

/-- THE SECOND FORM's CARD OF 'yardarmlaw26.SessionAsked'. -/
def sessionAskedUptoCard : Claim7 := { stood := { row := sessionAskedUptoRow, standIns := [], harness := (true, "aa5e802f5c4de50cf7e13028c1fa2353de24301df03f5f278f1cf2d1448f27b1"), looks := false }, kinds := [], alts := [], laidByText := true, laidKinds := [.data, .data, .funcs, .funcs, .pinned], laidTests := true, laidLooks := .later }
def SessionAskedUptoCardSaid : Prop := Claim7.holds Tryz.pinned (.plain (OpenSpec.upto sessionAskedSpec)) sessionAskedUptoCard

/-- THE SECOND FORM's CARD OF 'yardarmlaw26.SessionHas'. -/
def sessionHasUptoCard : Claim7 := { stood := { row := sessionHasUptoRow, standIns := [], harness := (true, "aa5e802f5c4de50cf7e13028c1fa2353de24301df03f5f278f1cf2d1448f27b1"), looks := false }, kinds := [], alts := [], laidByText := true, laidKinds := [.data, .data, .funcs, .funcs, .pinned], laidTests := true, laidLooks := .later }
def SessionHasUptoCardSaid : Prop := Claim7.holds Tryz.pinned (.plain (OpenSpec.upto sessionHasSpec)) sessionHasUptoCard

/-- THE SECOND FORM's CARD OF 'yardarmlaw26.SessionShows'. -/
def sessionShowsUptoCard : Claim7 := { stood := { row := sessionShowsUptoRow, standIns := [], harness := (true, "aa5e802f5c4de50cf7e13028c1fa2353de24301df03f5f278f1cf2d1448f27b1"), looks := false }, kinds := [], alts := [], laidByText := true, laidKinds := [.data, .data, .funcs, .funcs, .pinned], laidTests := true, laidLooks := .later }
def SessionShowsUptoCardSaid : Prop := Claim7.holds Tryz.pinned (.plain (OpenSpec.upto sessionShowsSpec)) sessionShowsUptoCard

/-- THE SECOND FORM's CARD OF 'yardarmlaw27.GuardTells'. -/
def guardTellsUptoCard : Claim7 := { stood := { row := guardTellsUptoRow, standIns := [], harness := (true, "aa5e802f5c4de50cf7e13028c1fa2353de24301df03f5f278f1cf2d1448f27b1"), looks := false }, kinds := [], alts := [], laidByText := true, laidKinds := [.data, .data, .data, .funcs, .funcs, .pinned], laidTests := true, laidLooks := .later }
def GuardTellsUptoCardSaid : Prop := Claim7.holds Tryz.pinned (.plain (OpenSpec.upto guardTellsSpec)) guardTellsUptoCard

/-- THE SECOND FORM's CARD OF 'yardarmlaw27.GuardAsks'. -/
def guardAsksUptoCard : Claim7 := { stood := { row := guardAsksUptoRow, standIns := [], harness := (true, "aa5e802f5c4de50cf7e13028c1fa2353de24301df03f5f278f1cf2d1448f27b1"), looks := false }, kinds := [], alts := [], laidByText := true, laidKinds := [.data, .data, .data, .funcs, .funcs, .pinned], laidTests := true, laidLooks := .later }
def GuardAsksUptoCardSaid : Prop := Claim7.holds Tryz.pinned (.plain (OpenSpec.upto guardAsksSpec)) guardAsksUptoCard

/-- THE SECOND FORM's CARD OF 'yardarmlaw27.GuardGreatest'. -/
def guardGreatestUptoCard : Claim7 := { stood := { row := guardGreatestUptoRow, standIns := [], harness := (true, "aa5e802f5c4de50cf7e13028c1fa2353de24301df03f5f278f1cf2d1448f27b1"), looks := false }, kinds := [], alts := [], laidByText := true, laidKinds := [.data, .data, .data, .funcs, .funcs, .pinned], laidTests := true, laidLooks := .later }
def GuardGreatestUptoCardSaid : Prop := Claim7.holds Tryz.pinned (.plain (OpenSpec.upto guardGreatestSpec)) guardGreatestUptoCard

/-- THE SECOND FORM's CARD OF 'yardarmlaw27.GuardRight'. -/
def guardRightUptoCard : Claim7 := { stood := { row := guardRightUptoRow, standIns := [], harness := (true, "aa5e802f5c4de50cf7e13028c1fa2353de24301df03f5f278f1cf2d1448f27b1"), looks := false }, kinds := [], alts := [], laidByText := true, laidKinds := [.data, .data, .data, .funcs, .funcs, .pinned], laidTests := true, laidLooks := .later }
def GuardRightUptoCardSaid : Prop := Claim7.holds Tryz.pinned (.plain (OpenSpec.upto guardRightSpec)) guardRightUptoCard

/-- THE SECOND FORM's CARD OF 'yardarmlaw27.GuardBack'. -/
def guardBackUptoCard : Claim7 := { stood := { row := guardBackUptoRow, standIns := [], harness := (true, "aa5e802f5c4de50cf7e13028c1fa2353de24301df03f5f278f1cf2d1448f27b1"), looks := false }, kinds := [], alts := [], laidByText := true, laidKinds := [.data, .data, .data, .funcs, .funcs, .pinned], laidTests := true, laidLooks := .later }
def GuardBackUptoCardSaid : Prop := Claim7.holds Tryz.pinned (.plain (OpenSpec.upto guardBackSpec)) guardBackUptoCard
end Rows
end Go.Proofs.YtcaijocpofcbdaaGreatDoor
