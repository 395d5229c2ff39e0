/-
  DERIVED. GIVEN WITH THE SEED: THE CARDS: each row of YtcooiollckhdlaaGreatDoorRows.lean that lists a variable, with what it lists TIED to the program's text (the seventh form; the later family's looks); each row that meets fmt, with fmt's text TOLD by the authors' own Lean function (tested against real Go, not proved from fmt's source: count such statements apart). THE CARD IS WHAT COUNTS. Prove the row's statement (the work); the ties are given (YtcooiollckhdlaaGreatDoorTie.lean); close each card by the builder's one call (the guide's Derived/Test/ToyasCard.lean, 'card_holds'). Laid BY PROGRAM, IN A SANDBOX (cutbox-door.mjs). By AI agents, Wed Nov 11 2026. No macro, syntax, notation, axiom, sorry.
-/
import Derived.Test.YtcooiollckhdlaaGreatDoorRows
import GoSem.ClaimSeven
namespace Go.Proofs.YtcooiollckhdlaaGreatDoor
namespace Rows

/-- THE TIED CARD OF 'yardarmlaw08.PathWays'. -/
def pathWaysCard : Claim7 := { stood := { row := pathWaysRow, standIns := [], harness := (true, "01cf7de74656965628ccb547aec7b0a0fa921e9c23ddd5df2b15cc0dea2d739a"), looks := false }, kinds := [], alts := [], laidByText := true, laidKinds := [.data], laidTests := true, laidLooks := .later }
def PathWaysCardSaid : Prop := Claim7.holds Tryz.pinned (.plain (OpenSpec.ofChange pathWaysSpec)) pathWaysCard

/-- THE TIED CARD OF 'yardarmlaw08.PathRounds'. -/
def pathRoundsCard : Claim7 := { stood := { row := pathRoundsRow, standIns := [], harness := (true, "01cf7de74656965628ccb547aec7b0a0fa921e9c23ddd5df2b15cc0dea2d739a"), looks := false }, kinds := [], alts := [], laidByText := true, laidKinds := [.data], laidTests := true, laidLooks := .later }
def PathRoundsCardSaid : Prop := Claim7.holds Tryz.pinned (.plain (OpenSpec.ofChange pathRoundsSpec)) pathRoundsCard

/-- THE TIED CARD OF 'yardarmlaw08.PathIs'. -/
def pathIsCard : Claim7 := { stood := { row := pathIsRow, standIns := [], harness := (true, "01cf7de74656965628ccb547aec7b0a0fa921e9c23ddd5df2b15cc0dea2d739a"), looks := false }, kinds := [], alts := [], laidByText := true, laidKinds := [.data], laidTests := true, laidLooks := .later }
def PathIsCardSaid : Prop := Claim7.holds Tryz.pinned (.plain (OpenSpec.ofChange pathIsSpec)) pathIsCard

/-- THE TIED CARD OF 'yardarmlaw08.PathShort'. -/
def pathShortCard : Claim7 := { stood := { row := pathShortRow, standIns := [], harness := (true, "01cf7de74656965628ccb547aec7b0a0fa921e9c23ddd5df2b15cc0dea2d739a"), looks := false }, kinds := [], alts := [], laidByText := true, laidKinds := [.data], laidTests := true, laidLooks := .later }
def PathShortCardSaid : Prop := Claim7.holds Tryz.pinned (.plain (OpenSpec.ofChange pathShortSpec)) pathShortCard

/-- THE TIED CARD OF 'yardarmlaw08.PathRound'. -/
def pathRoundCard : Claim7 := { stood := { row := pathRoundRow, standIns := [], harness := (true, "01cf7de74656965628ccb547aec7b0a0fa921e9c23ddd5df2b15cc0dea2d739a"), looks := false }, kinds := [], alts := [], laidByText := true, laidKinds := [.data], laidTests := true, laidLooks := .later }
def PathRoundCardSaid : Prop := Claim7.holds Tryz.pinned (.plain (OpenSpec.ofChange pathRoundSpec)) pathRoundCard

/-- THE TIED CARD OF 'yardarmlaw08.PathMore'. -/
def pathMoreCard : Claim7 := { stood := { row := pathMoreRow, standIns := [], harness := (true, "01cf7de74656965628ccb547aec7b0a0fa921e9c23ddd5df2b15cc0dea2d739a"), looks := false }, kinds := [], alts := [], laidByText := true, laidKinds := [.data], laidTests := true, laidLooks := .later }
def PathMoreCardSaid : Prop := Claim7.holds Tryz.pinned (.plain (OpenSpec.ofChange pathMoreSpec)) pathMoreCard

/-- THE SECOND FORM's CARD OF 'yardarmlaw08.PathWays'. -/
def pathWaysUptoCard : Claim7 := { stood := { row := pathWaysUptoRow, standIns := [], harness := (true, "01cf7de74656965628ccb547aec7b0a0fa921e9c23ddd5df2b15cc0dea2d739a"), looks := false }, kinds := [], alts := [], laidByText := true, laidKinds := [.data], laidTests := true, laidLooks := .later }
def PathWaysUptoCardSaid : Prop := Claim7.holds Tryz.pinned (.plain (OpenSpec.upto pathWaysSpec)) pathWaysUptoCard

/-- THE SECOND FORM's CARD OF 'yardarmlaw08.PathRounds'. -/
def pathRoundsUptoCard : Claim7 := { stood := { row := pathRoundsUptoRow, standIns := [], harness := (true, "01cf7de74656965628ccb547aec7b0a0fa921e9c23ddd5df2b15cc0dea2d739a"), looks := false }, kinds := [], alts := [], laidByText := true, laidKinds := [.data], laidTests := true, laidLooks := .later }
def PathRoundsUptoCardSaid : Prop := Claim7.holds Tryz.pinned (.plain (OpenSpec.upto pathRoundsSpec)) pathRoundsUptoCard

/-- THE SECOND FORM's CARD OF 'yardarmlaw08.PathIs'. -/
def pathIsUptoCard : Claim7 := { stood := { row := pathIsUptoRow, standIns := [], harness := (true, "01cf7de74656965628ccb547aec7b0a0fa921e9c23ddd5df2b15cc0dea2d739a"), looks := false }, kinds := [], alts := [], laidByText := true, laidKinds := [.data], laidTests := true, laidLooks := .later }
def PathIsUptoCardSaid : Prop := Claim7.holds Tryz.pinned (.plain (OpenSpec.upto pathIsSpec)) pathIsUptoCard

/-- THE SECOND FORM's CARD OF 'yardarmlaw08.PathShort'. -/
def pathShortUptoCard : Claim7 := { stood := { row := pathShortUptoRow, standIns := [], harness := (true, "01cf7de74656965628ccb547aec7b0a0fa921e9c23ddd5df2b15cc0dea2d739a"), looks := false }, kinds := [], alts := [], laidByText := true, laidKinds := [.data], laidTests := true, laidLooks := .later }
def PathShortUptoCardSaid : Prop := Claim7.holds Tryz.pinned (.plain (OpenSpec.upto pathShortSpec)) pathShortUptoCard

/-- THE SECOND FORM's CARD OF 'yardarmlaw08.PathRound'. -/
def pathRoundUptoCard : Claim7 := { stood := { row := pathRoundUptoRow, standIns := [], harness := (true, "01cf7de74656965628ccb547aec7b0a0fa921e9c23ddd5df2b15cc0dea2d739a"), looks := false }, kinds := [], alts := [], laidByText := true, laidKinds := [.data], laidTests := true, laidLooks := .later }
def PathRoundUptoCardSaid : Prop := Claim7.holds Tryz.pinned (.plain (OpenSpec.upto pathRoundSpec)) pathRoundUptoCard

/-- THE SECOND FORM's CARD OF 'yardarmlaw08.PathMore'. -/
def pathMoreUptoCard : Claim7 := { stood := { row := pathMoreUptoRow, standIns := [], harness := (true, "01cf7de74656965628ccb547aec7b0a0fa921e9c23ddd5df2b15cc0dea2d739a"), looks := false }, kinds := [], alts := [], laidByText := true, laidKinds := [.data], laidTests := true, laidLooks := .later }
def PathMoreUptoCardSaid : Prop := Claim7.holds Tryz.pinned (.plain (OpenSpec.upto pathMoreSpec)) pathMoreUptoCard
end Rows
end Go.Proofs.YtcooiollckhdlaaGreatDoor
