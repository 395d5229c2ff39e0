/-
  DERIVED. GIVEN WITH THE SEED: THE CARDS: each row of YtdbfjfphfbcgiaaGreatDoorRows.lean that lists a variable, with what it lists TIED to the program's text (the seventh form; the later family's looks); each row that meets fmt, with fmt's text TOLD by the authors' own Lean function (tested against real Go, not proved from fmt's source: count such statements apart). THE CARD IS WHAT COUNTS. Prove the row's statement (the work); the ties are given (YtdbfjfphfbcgiaaGreatDoorTie.lean); close each card by the builder's one call (the guide's Derived/Test/ToyasCard.lean, 'card_holds'). Laid BY PROGRAM, IN A SANDBOX (cutbox-door.mjs). By AI agents, Wed Nov 11 2026. No macro, syntax, notation, axiom, sorry.
-/
import Derived.Test.YtdbfjfphfbcgiaaGreatDoorRows
import GoSem.ClaimSeven
namespace Go.Proofs.YtdbfjfphfbcgiaaGreatDoor
namespace Rows

/-- THE TIED CARD OF 'yardarmlaw15.RulesFirst'. -/
def rulesFirstCard : Claim7 := { stood := { row := rulesFirstRow, standIns := [], harness := (true, "c8633831be58a87b70793780088aaefcf22fb2213a3e11f443de47b04303c451"), looks := false }, kinds := [], alts := [], laidByText := true, laidKinds := [.data, .data, .funcs, .pinned], laidTests := true, laidLooks := .later }
def RulesFirstCardSaid : Prop := Claim7.holds Tryz.pinned (.plain (OpenSpec.ofChange rulesFirstSpec)) rulesFirstCard

/-- THE TIED CARD OF 'yardarmlaw15.RulesPlaces'. -/
def rulesPlacesCard : Claim7 := { stood := { row := rulesPlacesRow, standIns := [], harness := (true, "c8633831be58a87b70793780088aaefcf22fb2213a3e11f443de47b04303c451"), looks := false }, kinds := [], alts := [], laidByText := true, laidKinds := [.data, .data, .funcs, .pinned], laidTests := true, laidLooks := .later }
def RulesPlacesCardSaid : Prop := Claim7.holds Tryz.pinned (.plain (OpenSpec.ofChange rulesPlacesSpec)) rulesPlacesCard

/-- THE TIED CARD OF 'yardarmlaw16.IndexRanks'. -/
def indexRanksCard : Claim7 := { stood := { row := indexRanksRow, standIns := [], harness := (true, "c8633831be58a87b70793780088aaefcf22fb2213a3e11f443de47b04303c451"), looks := false }, kinds := [], alts := [], laidByText := true, laidKinds := [.data, .data, .funcs, .pinned], laidTests := true, laidLooks := .later }
def IndexRanksCardSaid : Prop := Claim7.holds Tryz.pinned (.plain (OpenSpec.ofChange indexRanksSpec)) indexRanksCard

/-- THE TIED CARD OF 'yardarmlaw16.IndexTells'. -/
def indexTellsCard : Claim7 := { stood := { row := indexTellsRow, standIns := [], harness := (true, "c8633831be58a87b70793780088aaefcf22fb2213a3e11f443de47b04303c451"), looks := false }, kinds := [], alts := [], laidByText := true, laidKinds := [.data, .data, .funcs, .pinned], laidTests := true, laidLooks := .later }
def IndexTellsCardSaid : Prop := Claim7.holds Tryz.pinned (.plain (OpenSpec.ofChange indexTellsSpec)) indexTellsCard

/-- THE TIED CARD OF 'yardarmlaw16.IndexSees'. -/
def indexSeesCard : Claim7 := { stood := { row := indexSeesRow, standIns := [], harness := (true, "c8633831be58a87b70793780088aaefcf22fb2213a3e11f443de47b04303c451"), looks := false }, kinds := [], alts := [], laidByText := true, laidKinds := [.data, .data, .funcs, .pinned], laidTests := true, laidLooks := .later }
def IndexSeesCardSaid : Prop := Claim7.holds Tryz.pinned (.plain (OpenSpec.ofChange indexSeesSpec)) indexSeesCard

/-- THE TIED CARD OF 'yardarmlaw16.IndexVersions'. -/
def indexVersionsCard : Claim7 := { stood := { row := indexVersionsRow, standIns := [], harness := (true, "c8633831be58a87b70793780088aaefcf22fb2213a3e11f443de47b04303c451"), looks := false }, kinds := [], alts := [], laidByText := true, laidKinds := [.data, .data, .funcs, .pinned], laidTests := true, laidLooks := .later }
def IndexVersionsCardSaid : Prop := Claim7.holds Tryz.pinned (.plain (OpenSpec.ofChange indexVersionsSpec)) indexVersionsCard

/-- THE TIED CARD OF 'yardarmlaw16.IndexWhole'. -/
def indexWholeCard : Claim7 := { stood := { row := indexWholeRow, standIns := [], harness := (true, "c8633831be58a87b70793780088aaefcf22fb2213a3e11f443de47b04303c451"), looks := false }, kinds := [], alts := [], laidByText := true, laidKinds := [.data, .data, .funcs, .pinned], laidTests := true, laidLooks := .later }
def IndexWholeCardSaid : Prop := Claim7.holds Tryz.pinned (.plain (OpenSpec.ofChange indexWholeSpec)) indexWholeCard

/-- THE TIED CARD OF 'yardarmlaw17.MatchRanks'. -/
def matchRanksCard : Claim7 := { stood := { row := matchRanksRow, standIns := [], harness := (true, "c8633831be58a87b70793780088aaefcf22fb2213a3e11f443de47b04303c451"), looks := false }, kinds := [], alts := [], laidByText := true, laidKinds := [.data, .data, .funcs, .pinned], laidTests := true, laidLooks := .later }
def MatchRanksCardSaid : Prop := Claim7.holds Tryz.pinned (.plain (OpenSpec.ofChange matchRanksSpec)) matchRanksCard

/-- THE TIED CARD OF 'yardarmlaw17.MatchRuns'. -/
def matchRunsCard : Claim7 := { stood := { row := matchRunsRow, standIns := [], harness := (true, "c8633831be58a87b70793780088aaefcf22fb2213a3e11f443de47b04303c451"), looks := false }, kinds := [], alts := [], laidByText := true, laidKinds := [.data, .data, .funcs, .pinned], laidTests := true, laidLooks := .later }
def MatchRunsCardSaid : Prop := Claim7.holds Tryz.pinned (.plain (OpenSpec.ofChange matchRunsSpec)) matchRunsCard

/-- THE TIED CARD OF 'yardarmlaw17.MatchSees'. -/
def matchSeesCard : Claim7 := { stood := { row := matchSeesRow, standIns := [], harness := (true, "c8633831be58a87b70793780088aaefcf22fb2213a3e11f443de47b04303c451"), looks := false }, kinds := [], alts := [], laidByText := true, laidKinds := [.data, .data, .funcs, .pinned], laidTests := true, laidLooks := .later }
def MatchSeesCardSaid : Prop := Claim7.holds Tryz.pinned (.plain (OpenSpec.ofChange matchSeesSpec)) matchSeesCard

/-- THE TIED CARD OF 'yardarmlaw17.MatchNames'. -/
def matchNamesCard : Claim7 := { stood := { row := matchNamesRow, standIns := [], harness := (true, "c8633831be58a87b70793780088aaefcf22fb2213a3e11f443de47b04303c451"), looks := false }, kinds := [], alts := [], laidByText := true, laidKinds := [.data, .data, .funcs, .pinned], laidTests := true, laidLooks := .later }
def MatchNamesCardSaid : Prop := Claim7.holds Tryz.pinned (.plain (OpenSpec.ofChange matchNamesSpec)) matchNamesCard

/-- THE SECOND FORM's CARD OF 'yardarmlaw15.RulesFirst'. -/
def rulesFirstUptoCard : Claim7 := { stood := { row := rulesFirstUptoRow, standIns := [], harness := (true, "c8633831be58a87b70793780088aaefcf22fb2213a3e11f443de47b04303c451"), looks := false }, kinds := [], alts := [], laidByText := true, laidKinds := [.data, .data, .funcs, .pinned], laidTests := true, laidLooks := .later }
def RulesFirstUptoCardSaid : Prop := Claim7.holds Tryz.pinned (.plain (OpenSpec.upto rulesFirstSpec)) rulesFirstUptoCard

/-- THE SECOND FORM's CARD OF 'yardarmlaw15.RulesPlaces'. -/
def rulesPlacesUptoCard : Claim7 := { stood := { row := rulesPlacesUptoRow, standIns := [], harness := (true, "c8633831be58a87b70793780088aaefcf22fb2213a3e11f443de47b04303c451"), looks := false }, kinds := [], alts := [], laidByText := true, laidKinds := [.data, .data, .funcs, .pinned], laidTests := true, laidLooks := .later }
def RulesPlacesUptoCardSaid : Prop := Claim7.holds Tryz.pinned (.plain (OpenSpec.upto rulesPlacesSpec)) rulesPlacesUptoCard

/-- THE SECOND FORM's CARD OF 'yardarmlaw16.IndexRanks'. -/
def indexRanksUptoCard : Claim7 := { stood := { row := indexRanksUptoRow, standIns := [], harness := (true, "c8633831be58a87b70793780088aaefcf22fb2213a3e11f443de47b04303c451"), looks := false }, kinds := [], alts := [], laidByText := true, laidKinds := [.data, .data, .funcs, .pinned], laidTests := true, laidLooks := .later }
def IndexRanksUptoCardSaid : Prop := Claim7.holds Tryz.pinned (.plain (OpenSpec.upto indexRanksSpec)) indexRanksUptoCard

/-- THE SECOND FORM's CARD OF 'yardarmlaw16.IndexTells'. -/
def indexTellsUptoCard : Claim7 := { stood := { row := indexTellsUptoRow, standIns := [], harness := (true, "c8633831be58a87b70793780088aaefcf22fb2213a3e11f443de47b04303c451"), looks := false }, kinds := [], alts := [], laidByText := true, laidKinds := [.data, .data, .funcs, .pinned], laidTests := true, laidLooks := .later }
def IndexTellsUptoCardSaid : Prop := Claim7.holds Tryz.pinned (.plain (OpenSpec.upto indexTellsSpec)) indexTellsUptoCard

/-- THE SECOND FORM's CARD OF 'yardarmlaw16.IndexSees'. -/
def indexSeesUptoCard : Claim7 := { stood := { row := indexSeesUptoRow, standIns := [], harness := (true, "c8633831be58a87b70793780088aaefcf22fb2213a3e11f443de47b04303c451"), looks := false }, kinds := [], alts := [], laidByText := true, laidKinds := [.data, .data, .funcs, .pinned], laidTests := true, laidLooks := .later }
def IndexSeesUptoCardSaid : Prop := Claim7.holds Tryz.pinned (.plain (OpenSpec.upto indexSeesSpec)) indexSeesUptoCard

/-- THE SECOND FORM's CARD OF 'yardarmlaw16.IndexVersions'. -/
def indexVersionsUptoCard : Claim7 := { stood := { row := indexVersionsUptoRow, standIns := [], harness := (true, "c8633831be58a87b70793780088aaefcf22fb2213a3e11f443de47b04303c451"), looks := false }, kinds := [], alts := [], laidByText := true, laidKinds := [.data, .data, .funcs, .pinned], laidTests := true, laidLooks := .later }
def IndexVersionsUptoCardSaid : Prop := Claim7.holds Tryz.pinned (.plain (OpenSpec.upto indexVersionsSpec)) indexVersionsUptoCard

/-- THE SECOND FORM's CARD OF 'yardarmlaw16.IndexWhole'. -/
def indexWholeUptoCard : Claim7 := { stood := { row := indexWholeUptoRow, standIns := [], harness := (true, "c8633831be58a87b70793780088aaefcf22fb2213a3e11f443de47b04303c451"), looks := false }, kinds := [], alts := [], laidByText := true, laidKinds := [.data, .data, .funcs, .pinned], laidTests := true, laidLooks := .later }
def IndexWholeUptoCardSaid : Prop := Claim7.holds Tryz.pinned (.plain (OpenSpec.upto indexWholeSpec)) indexWholeUptoCard

/-- THE SECOND FORM's CARD OF 'yardarmlaw17.MatchRanks'. -/
def matchRanksUptoCard : Claim7 := { stood := { row := matchRanksUptoRow, standIns := [], harness := (true, "c8633831be58a87b70793780088aaefcf22fb2213a3e11f443de47b04303c451"), looks := false }, kinds := [], alts := [], laidByText := true, laidKinds := [.data, .data, .funcs, .pinned], laidTests := true, laidLooks := .later }
def MatchRanksUptoCardSaid : Prop := Claim7.holds Tryz.pinned (.plain (OpenSpec.upto matchRanksSpec)) matchRanksUptoCard

/-- THE SECOND FORM's CARD OF 'yardarmlaw17.MatchRuns'. -/
def matchRunsUptoCard : Claim7 := { stood := { row := matchRunsUptoRow, standIns := [], harness := (true, "c8633831be58a87b70793780088aaefcf22fb2213a3e11f443de47b04303c451"), looks := false }, kinds := [], alts := [], laidByText := true, laidKinds := [.data, .data, .funcs, .pinned], laidTests := true, laidLooks := .later }
def MatchRunsUptoCardSaid : Prop := Claim7.holds Tryz.pinned (.plain (OpenSpec.upto matchRunsSpec)) matchRunsUptoCard

/-- THE SECOND FORM's CARD OF 'yardarmlaw17.MatchSees'. -/
def matchSeesUptoCard : Claim7 := { stood := { row := matchSeesUptoRow, standIns := [], harness := (true, "c8633831be58a87b70793780088aaefcf22fb2213a3e11f443de47b04303c451"), looks := false }, kinds := [], alts := [], laidByText := true, laidKinds := [.data, .data, .funcs, .pinned], laidTests := true, laidLooks := .later }
def MatchSeesUptoCardSaid : Prop := Claim7.holds Tryz.pinned (.plain (OpenSpec.upto matchSeesSpec)) matchSeesUptoCard

/-- THE SECOND FORM's CARD OF 'yardarmlaw17.MatchNames'. -/
def matchNamesUptoCard : Claim7 := { stood := { row := matchNamesUptoRow, standIns := [], harness := (true, "c8633831be58a87b70793780088aaefcf22fb2213a3e11f443de47b04303c451"), looks := false }, kinds := [], alts := [], laidByText := true, laidKinds := [.data, .data, .funcs, .pinned], laidTests := true, laidLooks := .later }
def MatchNamesUptoCardSaid : Prop := Claim7.holds Tryz.pinned (.plain (OpenSpec.upto matchNamesSpec)) matchNamesUptoCard
end Rows
end Go.Proofs.YtdbfjfphfbcgiaaGreatDoor
