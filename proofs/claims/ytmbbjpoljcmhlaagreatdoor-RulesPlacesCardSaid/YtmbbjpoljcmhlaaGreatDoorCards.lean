/-
  DERIVED. GIVEN WITH THE SEED: THE CARDS: each row of YtmbbjpoljcmhlaaGreatDoorRows.lean that lists a variable, with what it lists TIED to the program's text (the seventh form; the later family's looks); each row that meets fmt, with fmt's text TOLD by the authors' own Lean function (tested against real Go, not proved from fmt's source: count such statements apart). THE CARD IS WHAT COUNTS. Prove the row's statement (the work); the ties are given (YtmbbjpoljcmhlaaGreatDoorTie.lean); close each card by the builder's one call (the guide's Derived/Test/ToyasCard.lean, 'card_holds'). Laid BY PROGRAM, IN A SANDBOX (cutbox-door.mjs). By AI agents, Wed Nov 11 2026. No macro, syntax, notation, axiom, sorry.
-/
import Derived.Test.YtmbbjpoljcmhlaaGreatDoorRows
import GoSem.ClaimSeven
namespace Go.Proofs.YtmbbjpoljcmhlaaGreatDoor
namespace Rows

/-- THE TIED CARD OF 'yardarmlaw15.RulesFirst'. -/
def rulesFirstCard : Claim7 := { stood := { row := rulesFirstRow, standIns := [], harness := (true, "d55ab8e815a290dad6f2351e9d6ec18f48be6eec6ef6cea3a1db13a56bb930ed"), looks := false }, kinds := [], alts := [], laidByText := true, laidKinds := [.data, .data, .funcs, .pinned], laidTests := true, laidLooks := .later }
def RulesFirstCardSaid : Prop := Claim7.holds Tryz.pinned (.plain (OpenSpec.ofChange rulesFirstSpec)) rulesFirstCard

/-- THE TIED CARD OF 'yardarmlaw15.RulesPlaces'. -/
def rulesPlacesCard : Claim7 := { stood := { row := rulesPlacesRow, standIns := [], harness := (true, "d55ab8e815a290dad6f2351e9d6ec18f48be6eec6ef6cea3a1db13a56bb930ed"), looks := false }, kinds := [], alts := [], laidByText := true, laidKinds := [.data, .data, .funcs, .pinned], laidTests := true, laidLooks := .later }
def RulesPlacesCardSaid : Prop := Claim7.holds Tryz.pinned (.plain (OpenSpec.ofChange rulesPlacesSpec)) rulesPlacesCard

/-- THE TIED CARD OF 'yardarmlaw15.RulesBegins'. -/
def rulesBeginsCard : Claim7 := { stood := { row := rulesBeginsRow, standIns := [], harness := (true, "d55ab8e815a290dad6f2351e9d6ec18f48be6eec6ef6cea3a1db13a56bb930ed"), looks := false }, kinds := [], alts := [], laidByText := true, laidKinds := [.data, .data, .funcs, .pinned], laidTests := true, laidLooks := .later }
def RulesBeginsCardSaid : Prop := Claim7.holds Tryz.pinned (.plain (OpenSpec.ofChange rulesBeginsSpec)) rulesBeginsCard

/-- THE TIED CARD OF 'yardarmlaw15.RulesEnds'. -/
def rulesEndsCard : Claim7 := { stood := { row := rulesEndsRow, standIns := [], harness := (true, "d55ab8e815a290dad6f2351e9d6ec18f48be6eec6ef6cea3a1db13a56bb930ed"), looks := false }, kinds := [], alts := [], laidByText := true, laidKinds := [.data, .data, .funcs, .pinned], laidTests := true, laidLooks := .later }
def RulesEndsCardSaid : Prop := Claim7.holds Tryz.pinned (.plain (OpenSpec.ofChange rulesEndsSpec)) rulesEndsCard

/-- THE TIED CARD OF 'yardarmlaw16.IndexRanks'. -/
def indexRanksCard : Claim7 := { stood := { row := indexRanksRow, standIns := [], harness := (true, "d55ab8e815a290dad6f2351e9d6ec18f48be6eec6ef6cea3a1db13a56bb930ed"), looks := false }, kinds := [], alts := [], laidByText := true, laidKinds := [.data, .data, .funcs, .pinned], laidTests := true, laidLooks := .later }
def IndexRanksCardSaid : Prop := Claim7.holds Tryz.pinned (.plain (OpenSpec.ofChange indexRanksSpec)) indexRanksCard

/-- THE TIED CARD OF 'yardarmlaw16.IndexTells'. -/
def indexTellsCard : Claim7 := { stood := { row := indexTellsRow, standIns := [], harness := (true, "d55ab8e815a290dad6f2351e9d6ec18f48be6eec6ef6cea3a1db13a56bb930ed"), looks := false }, kinds := [], alts := [], laidByText := true, laidKinds := [.data, .data, .funcs, .pinned], laidTests := true, laidLooks := .later }
def IndexTellsCardSaid : Prop := Claim7.holds Tryz.pinned (.plain (OpenSpec.ofChange indexTellsSpec)) indexTellsCard

/-- THE TIED CARD OF 'yardarmlaw16.IndexSees'. -/
def indexSeesCard : Claim7 := { stood := { row := indexSeesRow, standIns := [], harness := (true, "d55ab8e815a290dad6f2351e9d6ec18f48be6eec6ef6cea3a1db13a56bb930ed"), looks := false }, kinds := [], alts := [], laidByText := true, laidKinds := [.data, .data, .funcs, .pinned], laidTests := true, laidLooks := .later }
def IndexSeesCardSaid : Prop := Claim7.holds Tryz.pinned (.plain (OpenSpec.ofChange indexSeesSpec)) indexSeesCard

/-- THE TIED CARD OF 'yardarmlaw16.IndexVersions'. -/
def indexVersionsCard : Claim7 := { stood := { row := indexVersionsRow, standIns := [], harness := (true, "d55ab8e815a290dad6f2351e9d6ec18f48be6eec6ef6cea3a1db13a56bb930ed"), looks := false }, kinds := [], alts := [], laidByText := true, laidKinds := [.data, .data, .funcs, .pinned], laidTests := true, laidLooks := .later }
def IndexVersionsCardSaid : Prop := Claim7.holds Tryz.pinned (.plain (OpenSpec.ofChange indexVersionsSpec)) indexVersionsCard

/-- THE TIED CARD OF 'yardarmlaw16.IndexWhole'. -/
def indexWholeCard : Claim7 := { stood := { row := indexWholeRow, standIns := [], harness := (true, "d55ab8e815a290dad6f2351e9d6ec18f48be6eec6ef6cea3a1db13a56bb930ed"), looks := false }, kinds := [], alts := [], laidByText := true, laidKinds := [.data, .data, .funcs, .pinned], laidTests := true, laidLooks := .later }
def IndexWholeCardSaid : Prop := Claim7.holds Tryz.pinned (.plain (OpenSpec.ofChange indexWholeSpec)) indexWholeCard

/-- THE TIED CARD OF 'yardarmlaw17.MatchRanks'. -/
def matchRanksCard : Claim7 := { stood := { row := matchRanksRow, standIns := [], harness := (true, "d55ab8e815a290dad6f2351e9d6ec18f48be6eec6ef6cea3a1db13a56bb930ed"), looks := false }, kinds := [], alts := [], laidByText := true, laidKinds := [.data, .data, .funcs, .pinned], laidTests := true, laidLooks := .later }
def MatchRanksCardSaid : Prop := Claim7.holds Tryz.pinned (.plain (OpenSpec.ofChange matchRanksSpec)) matchRanksCard

/-- THE TIED CARD OF 'yardarmlaw17.MatchRuns'. -/
def matchRunsCard : Claim7 := { stood := { row := matchRunsRow, standIns := [], harness := (true, "d55ab8e815a290dad6f2351e9d6ec18f48be6eec6ef6cea3a1db13a56bb930ed"), looks := false }, kinds := [], alts := [], laidByText := true, laidKinds := [.data, .data, .funcs, .pinned], laidTests := true, laidLooks := .later }
def MatchRunsCardSaid : Prop := Claim7.holds Tryz.pinned (.plain (OpenSpec.ofChange matchRunsSpec)) matchRunsCard

/-- THE SECOND FORM's CARD OF 'yardarmlaw15.RulesFirst'. -/
def rulesFirstUptoCard : Claim7 := { stood := { row := rulesFirstUptoRow, standIns := [], harness := (true, "d55ab8e815a290dad6f2351e9d6ec18f48be6eec6ef6cea3a1db13a56bb930ed"), looks := false }, kinds := [], alts := [], laidByText := true, laidKinds := [.data, .data, .funcs, .pinned], laidTests := true, laidLooks := .later }
def RulesFirstUptoCardSaid : Prop := Claim7.holds Tryz.pinned (.plain (OpenSpec.upto rulesFirstSpec)) rulesFirstUptoCard

/-- THE SECOND FORM's CARD OF 'yardarmlaw15.RulesPlaces'. -/
def rulesPlacesUptoCard : Claim7 := { stood := { row := rulesPlacesUptoRow, standIns := [], harness := (true, "d55ab8e815a290dad6f2351e9d6ec18f48be6eec6ef6cea3a1db13a56bb930ed"), looks := false }, kinds := [], alts := [], laidByText := true, laidKinds := [.data, .data, .funcs, .pinned], laidTests := true, laidLooks := .later }
def RulesPlacesUptoCardSaid : Prop := Claim7.holds Tryz.pinned (.plain (OpenSpec.upto rulesPlacesSpec)) rulesPlacesUptoCard

/-- THE SECOND FORM's CARD OF 'yardarmlaw15.RulesBegins'. -/
def rulesBeginsUptoCard : Claim7 := { stood := { row := rulesBeginsUptoRow, standIns := [], harness := (true, "d55ab8e815a290dad6f2351e9d6ec18f48be6eec6ef6cea3a1db13a56bb930ed"), looks := false }, kinds := [], alts := [], laidByText := true, laidKinds := [.data, .data, .funcs, .pinned], laidTests := true, laidLooks := .later }
def RulesBeginsUptoCardSaid : Prop := Claim7.holds Tryz.pinned (.plain (OpenSpec.upto rulesBeginsSpec)) rulesBeginsUptoCard

/-- THE SECOND FORM's CARD OF 'yardarmlaw15.RulesEnds'. -/
def rulesEndsUptoCard : Claim7 := { stood := { row := rulesEndsUptoRow, standIns := [], harness := (true, "d55ab8e815a290dad6f2351e9d6ec18f48be6eec6ef6cea3a1db13a56bb930ed"), looks := false }, kinds := [], alts := [], laidByText := true, laidKinds := [.data, .data, .funcs, .pinned], laidTests := true, laidLooks := .later }
def RulesEndsUptoCardSaid : Prop := Claim7.holds Tryz.pinned (.plain (OpenSpec.upto rulesEndsSpec)) rulesEndsUptoCard

/-- THE SECOND FORM's CARD OF 'yardarmlaw16.IndexRanks'. -/
def indexRanksUptoCard : Claim7 := { stood := { row := indexRanksUptoRow, standIns := [], harness := (true, "d55ab8e815a290dad6f2351e9d6ec18f48be6eec6ef6cea3a1db13a56bb930ed"), looks := false }, kinds := [], alts := [], laidByText := true, laidKinds := [.data, .data, .funcs, .pinned], laidTests := true, laidLooks := .later }
def IndexRanksUptoCardSaid : Prop := Claim7.holds Tryz.pinned (.plain (OpenSpec.upto indexRanksSpec)) indexRanksUptoCard

/-- THE SECOND FORM's CARD OF 'yardarmlaw16.IndexTells'. -/
def indexTellsUptoCard : Claim7 := { stood := { row := indexTellsUptoRow, standIns := [], harness := (true, "d55ab8e815a290dad6f2351e9d6ec18f48be6eec6ef6cea3a1db13a56bb930ed"), looks := false }, kinds := [], alts := [], laidByText := true, laidKinds := [.data, .data, .funcs, .pinned], laidTests := true, laidLooks := .later }
def IndexTellsUptoCardSaid : Prop := Claim7.holds Tryz.pinned (.plain (OpenSpec.upto indexTellsSpec)) indexTellsUptoCard

/-- THE SECOND FORM's CARD OF 'yardarmlaw16.IndexSees'. -/
def indexSeesUptoCard : Claim7 := { stood := { row := indexSeesUptoRow, standIns := [], harness := (true, "d55ab8e815a290dad6f2351e9d6ec18f48be6eec6ef6cea3a1db13a56bb930ed"), looks := false }, kinds := [], alts := [], laidByText := true, laidKinds := [.data, .data, .funcs, .pinned], laidTests := true, laidLooks := .later }
def IndexSeesUptoCardSaid : Prop := Claim7.holds Tryz.pinned (.plain (OpenSpec.upto indexSeesSpec)) indexSeesUptoCard

/-- THE SECOND FORM's CARD OF 'yardarmlaw16.IndexVersions'. -/
def indexVersionsUptoCard : Claim7 := { stood := { row := indexVersionsUptoRow, standIns := [], harness := (true, "d55ab8e815a290dad6f2351e9d6ec18f48be6eec6ef6cea3a1db13a56bb930ed"), looks := false }, kinds := [], alts := [], laidByText := true, laidKinds := [.data, .data, .funcs, .pinned], laidTests := true, laidLooks := .later }
def IndexVersionsUptoCardSaid : Prop := Claim7.holds Tryz.pinned (.plain (OpenSpec.upto indexVersionsSpec)) indexVersionsUptoCard

/-- THE SECOND FORM's CARD OF 'yardarmlaw16.IndexWhole'. -/
def indexWholeUptoCard : Claim7 := { stood := { row := indexWholeUptoRow, standIns := [], harness := (true, "d55ab8e815a290dad6f2351e9d6ec18f48be6eec6ef6cea3a1db13a56bb930ed"), looks := false }, kinds := [], alts := [], laidByText := true, laidKinds := [.data, .data, .funcs, .pinned], laidTests := true, laidLooks := .later }
def IndexWholeUptoCardSaid : Prop := Claim7.holds Tryz.pinned (.plain (OpenSpec.upto indexWholeSpec)) indexWholeUptoCard

/-- THE SECOND FORM's CARD OF 'yardarmlaw17.MatchRanks'. -/
def matchRanksUptoCard : Claim7 := { stood := { row := matchRanksUptoRow, standIns := [], harness := (true, "d55ab8e815a290dad6f2351e9d6ec18f48be6eec6ef6cea3a1db13a56bb930ed"), looks := false }, kinds := [], alts := [], laidByText := true, laidKinds := [.data, .data, .funcs, .pinned], laidTests := true, laidLooks := .later }
def MatchRanksUptoCardSaid : Prop := Claim7.holds Tryz.pinned (.plain (OpenSpec.upto matchRanksSpec)) matchRanksUptoCard

/-- THE SECOND FORM's CARD OF 'yardarmlaw17.MatchRuns'. -/
def matchRunsUptoCard : Claim7 := { stood := { row := matchRunsUptoRow, standIns := [], harness := (true, "d55ab8e815a290dad6f2351e9d6ec18f48be6eec6ef6cea3a1db13a56bb930ed"), looks := false }, kinds := [], alts := [], laidByText := true, laidKinds := [.data, .data, .funcs, .pinned], laidTests := true, laidLooks := .later }
def MatchRunsUptoCardSaid : Prop := Claim7.holds Tryz.pinned (.plain (OpenSpec.upto matchRunsSpec)) matchRunsUptoCard
end Rows
end Go.Proofs.YtmbbjpoljcmhlaaGreatDoor
