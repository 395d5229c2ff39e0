/-
  NARROWER THAN 'FOR EVERY INPUT', by the rows' own cells (each row's printed sentence says how): RulesFirst: laid · RulesPlaces: laid · IndexRanks: laid · IndexTells: laid · IndexSees: laid · IndexVersions: laid · IndexWhole: laid · MatchRanks: laid · MatchRuns: laid · MatchSees: laid · MatchNames: laid.
  DERIVED. THE GIVEN ROWS OF THIS SEAT. 11 by the template 'for every input the law returns true; each argument reads behind the call as it read before'; 0 by the template 'total and deterministic' (their statements: YtdbfjfphfbcgiaaGreatDoorTotals.lean).
  GIVEN WITH THE SEED: the statements are not yours to turn. If you find one false, say at which input.
  Laid BY PROGRAM, IN A SANDBOX (cutbox-rows.mjs): the forced cells as the released guide's own fill.sh prints them over the translation 132a3f68d2d7592a… (all of the seat's roots in one cut). By AI agents, Wed Nov 11 2026. No macro, syntax, notation, axiom, sorry.
-/
import Derived.Test.YtdbfjfphfbcgiaaGreatDoorChecked
import GoSem.PinnedTables
import GoSem.Claim
import GoSem.ClaimJoined
import GoSem.ClaimMapViews
import Derived.JoinedTies
import Derived.KernelRfl
namespace Go.Proofs.YtdbfjfphfbcgiaaGreatDoor
/- THE CELL 'sum', in the pinned program and in every row, IS THE sha256 OF THE DUMP (.gsa) THAT YtdbfjfphfbcgiaaGreatDoorProg.lean LOADS. Nothing in Lean hashes anything: it is a label: what it is worth is what the hold of that sum in a sandbox is worth. -/
noncomputable def Tryz.pinned : Pinned := { name := "ytdbfjfphfbcgiaagreatdoor", sum := "132a3f68d2d7592a49a348e6842e6cdccdd6763ed0b7cf509be67f5e48e01382", checked := Tryz.checked }
namespace Rows
def none {H : Type} : Left H := { results := [], args := [] }

/- WHAT THE LISTED PACKAGE-LEVEL VARIABLES READ AS WHEN THE CALL BEGINS. Each datum BY PROGRAM (the guide's laid-datum.mjs) off the statement by which the dump's own 'gosem.cut.vars' lays the variable. In a bare row this is a premise. The card (YtdbfjfphfbcgiaaGreatDoorCards.lean) ties it to the program's text. -/
def laid_unicode_utf8_acceptRanges {H : Type} : DataW H := .agg [.agg [.lit (.int .u8 128), .lit (.int .u8 191)], .agg [.lit (.int .u8 160), .lit (.int .u8 191)], .agg [.lit (.int .u8 128), .lit (.int .u8 159)], .agg [.lit (.int .u8 144), .lit (.int .u8 191)], .agg [.lit (.int .u8 128), .lit (.int .u8 143)], .agg [.lit (.int .u8 0), .lit (.int .u8 0)], .agg [.lit (.int .u8 0), .lit (.int .u8 0)], .agg [.lit (.int .u8 0), .lit (.int .u8 0)], .agg [.lit (.int .u8 0), .lit (.int .u8 0)], .agg [.lit (.int .u8 0), .lit (.int .u8 0)], .agg [.lit (.int .u8 0), .lit (.int .u8 0)], .agg [.lit (.int .u8 0), .lit (.int .u8 0)], .agg [.lit (.int .u8 0), .lit (.int .u8 0)], .agg [.lit (.int .u8 0), .lit (.int .u8 0)], .agg [.lit (.int .u8 0), .lit (.int .u8 0)], .agg [.lit (.int .u8 0), .lit (.int .u8 0)]]
def laid_yardarm_history_limits {H : Type} : DataW H := .agg [.lit (.int .i64 300), .lit (.int .i64 60), .lit (.int .i64 300), .lit (.int .i64 60)]
def laid_yardarm_rules_asks {H : Type} : DataW H := .iface "func table" (.agg [.nil, .iface "func" (.lit (.string [40, 42, 121, 97, 114, 100, 97, 114, 109, 47, 114, 117, 108, 101, 115, 46, 108, 111, 111, 107, 41, 46, 98, 101, 103, 105, 110])), .iface "func" (.lit (.string [40, 42, 121, 97, 114, 100, 97, 114, 109, 47, 114, 117, 108, 101, 115, 46, 108, 111, 111, 107, 41, 46, 101, 110, 100])), .iface "func" (.lit (.string [40, 42, 121, 97, 114, 100, 97, 114, 109, 47, 114, 117, 108, 101, 115, 46, 108, 111, 111, 107, 41, 46, 99, 111, 117, 110, 116])), .iface "func" (.lit (.string [40, 42, 121, 97, 114, 100, 97, 114, 109, 47, 114, 117, 108, 101, 115, 46, 108, 111, 111, 107, 41, 46, 119, 114, 105, 116, 116, 101, 110])), .iface "func" (.lit (.string [40, 42, 121, 97, 114, 100, 97, 114, 109, 47, 114, 117, 108, 101, 115, 46, 108, 111, 111, 107, 41, 46, 111, 119, 110])), .iface "func" (.lit (.string [40, 42, 121, 97, 114, 100, 97, 114, 109, 47, 114, 117, 108, 101, 115, 46, 108, 111, 111, 107, 41, 46, 115, 99, 97, 110])), .iface "func" (.lit (.string [40, 42, 121, 97, 114, 100, 97, 114, 109, 47, 114, 117, 108, 101, 115, 46, 108, 111, 111, 107, 41, 46, 111, 114, 100, 101, 114])), .iface "func" (.lit (.string [40, 42, 121, 97, 114, 100, 97, 114, 109, 47, 114, 117, 108, 101, 115, 46, 108, 111, 111, 107, 41, 46, 109, 105, 115, 115, 105, 110, 103])), .iface "func" (.lit (.string [40, 42, 121, 97, 114, 100, 97, 114, 109, 47, 114, 117, 108, 101, 115, 46, 108, 111, 111, 107, 41, 46, 109, 97, 116, 99, 104])), .iface "func" (.lit (.string [40, 42, 121, 97, 114, 100, 97, 114, 109, 47, 114, 117, 108, 101, 115, 46, 108, 111, 111, 107, 41, 46, 119, 97, 110, 116]))])
/-- One of Go's own tables, pinned by name: the form's constant. -/
def laid_unicode_utf8_first : DataW Unit := Go.Pinned.utf8First

/-- 'yardarmlaw15.RulesFirst': WHATEVER THE INPUT: true; the input reads as it did. -/
def rulesFirstSpec : ChangeSpec := { name := "rulesFirst", fn := fun _ => fun
  | [d] => { results := [.lit (.bool true)], args := [d] }
  | _ => none }
def rulesFirstRow : OpenClaim := { program := "ytdbfjfphfbcgiaagreatdoor", sum := "132a3f68d2d7592a49a348e6842e6cdccdd6763ed0b7cf509be67f5e48e01382", func := "yardarm/yardarmlaw15.RulesFirst", spec := "rulesFirst", unfollowed := true, recurses := true, named := ["yardarm/rules.asks", "yardarm/history.limits", "unicode/utf8.first", "unicode/utf8.acceptRanges"], plainKeys := false, apart := false, laid := [("unicode/utf8.acceptRanges", laid_unicode_utf8_acceptRanges), ("yardarm/history.limits", laid_yardarm_history_limits), ("yardarm/rules.asks", laid_yardarm_rules_asks), ("unicode/utf8.first", laid_unicode_utf8_first)] }
def RulesFirstSaid : Prop := rulesFirstRow.holds Tryz.pinned (OpenSpec.ofChange rulesFirstSpec)

/-- ITS FALSE NEIGHBOUR: 'it returns false'. Refute it at one input. -/
def rulesFirstWrong : ChangeSpec := { name := "rulesFirst", fn := fun _ => fun
  | [d] => { results := [.lit (.bool false)], args := [d] }
  | _ => none }
def RulesFirstWrongFalsely : Prop := rulesFirstRow.holds Tryz.pinned (OpenSpec.ofChange rulesFirstWrong)

/-- 'yardarmlaw15.RulesPlaces': WHATEVER THE INPUT: true; the input reads as it did. -/
def rulesPlacesSpec : ChangeSpec := { name := "rulesPlaces", fn := fun _ => fun
  | [d1, d2] => { results := [.lit (.bool true)], args := [d1, d2] }
  | _ => none }
def rulesPlacesRow : OpenClaim := { program := "ytdbfjfphfbcgiaagreatdoor", sum := "132a3f68d2d7592a49a348e6842e6cdccdd6763ed0b7cf509be67f5e48e01382", func := "yardarm/yardarmlaw15.RulesPlaces", spec := "rulesPlaces", unfollowed := true, recurses := true, named := ["yardarm/rules.asks", "yardarm/history.limits", "unicode/utf8.first", "unicode/utf8.acceptRanges"], plainKeys := false, apart := false, laid := [("unicode/utf8.acceptRanges", laid_unicode_utf8_acceptRanges), ("yardarm/history.limits", laid_yardarm_history_limits), ("yardarm/rules.asks", laid_yardarm_rules_asks), ("unicode/utf8.first", laid_unicode_utf8_first)] }
def RulesPlacesSaid : Prop := rulesPlacesRow.holds Tryz.pinned (OpenSpec.ofChange rulesPlacesSpec)

/-- ITS FALSE NEIGHBOUR: 'it returns false'. Refute it at one input. -/
def rulesPlacesWrong : ChangeSpec := { name := "rulesPlaces", fn := fun _ => fun
  | [d1, d2] => { results := [.lit (.bool false)], args := [d1, d2] }
  | _ => none }
def RulesPlacesWrongFalsely : Prop := rulesPlacesRow.holds Tryz.pinned (OpenSpec.ofChange rulesPlacesWrong)

/-- 'yardarmlaw16.IndexRanks': WHATEVER THE INPUT: true; the input reads as it did. -/
def indexRanksSpec : ChangeSpec := { name := "indexRanks", fn := fun _ => fun
  | [d1, d2, d3] => { results := [.lit (.bool true)], args := [d1, d2, d3] }
  | _ => none }
def indexRanksRow : OpenClaim := { program := "ytdbfjfphfbcgiaagreatdoor", sum := "132a3f68d2d7592a49a348e6842e6cdccdd6763ed0b7cf509be67f5e48e01382", func := "yardarm/yardarmlaw16.IndexRanks", spec := "indexRanks", unfollowed := true, recurses := true, named := ["yardarm/history.limits", "unicode/utf8.first", "unicode/utf8.acceptRanges", "yardarm/rules.asks"], plainKeys := false, apart := false, laid := [("unicode/utf8.acceptRanges", laid_unicode_utf8_acceptRanges), ("yardarm/history.limits", laid_yardarm_history_limits), ("yardarm/rules.asks", laid_yardarm_rules_asks), ("unicode/utf8.first", laid_unicode_utf8_first)] }
def IndexRanksSaid : Prop := indexRanksRow.holds Tryz.pinned (OpenSpec.ofChange indexRanksSpec)

/-- ITS FALSE NEIGHBOUR: 'it returns false'. Refute it at one input. -/
def indexRanksWrong : ChangeSpec := { name := "indexRanks", fn := fun _ => fun
  | [d1, d2, d3] => { results := [.lit (.bool false)], args := [d1, d2, d3] }
  | _ => none }
def IndexRanksWrongFalsely : Prop := indexRanksRow.holds Tryz.pinned (OpenSpec.ofChange indexRanksWrong)

/-- 'yardarmlaw16.IndexTells': WHATEVER THE INPUT: true; the input reads as it did. -/
def indexTellsSpec : ChangeSpec := { name := "indexTells", fn := fun _ => fun
  | [d1, d2] => { results := [.lit (.bool true)], args := [d1, d2] }
  | _ => none }
def indexTellsRow : OpenClaim := { program := "ytdbfjfphfbcgiaagreatdoor", sum := "132a3f68d2d7592a49a348e6842e6cdccdd6763ed0b7cf509be67f5e48e01382", func := "yardarm/yardarmlaw16.IndexTells", spec := "indexTells", unfollowed := true, recurses := true, named := ["yardarm/history.limits", "unicode/utf8.first", "unicode/utf8.acceptRanges", "yardarm/rules.asks"], plainKeys := false, apart := false, laid := [("unicode/utf8.acceptRanges", laid_unicode_utf8_acceptRanges), ("yardarm/history.limits", laid_yardarm_history_limits), ("yardarm/rules.asks", laid_yardarm_rules_asks), ("unicode/utf8.first", laid_unicode_utf8_first)] }
def IndexTellsSaid : Prop := indexTellsRow.holds Tryz.pinned (OpenSpec.ofChange indexTellsSpec)

/-- ITS FALSE NEIGHBOUR: 'it returns false'. Refute it at one input. -/
def indexTellsWrong : ChangeSpec := { name := "indexTells", fn := fun _ => fun
  | [d1, d2] => { results := [.lit (.bool false)], args := [d1, d2] }
  | _ => none }
def IndexTellsWrongFalsely : Prop := indexTellsRow.holds Tryz.pinned (OpenSpec.ofChange indexTellsWrong)

/-- 'yardarmlaw16.IndexSees': WHATEVER THE INPUT: true; the input reads as it did. -/
def indexSeesSpec : ChangeSpec := { name := "indexSees", fn := fun _ => fun
  | [d1, d2] => { results := [.lit (.bool true)], args := [d1, d2] }
  | _ => none }
def indexSeesRow : OpenClaim := { program := "ytdbfjfphfbcgiaagreatdoor", sum := "132a3f68d2d7592a49a348e6842e6cdccdd6763ed0b7cf509be67f5e48e01382", func := "yardarm/yardarmlaw16.IndexSees", spec := "indexSees", unfollowed := true, recurses := true, named := ["yardarm/history.limits", "unicode/utf8.first", "unicode/utf8.acceptRanges", "yardarm/rules.asks"], plainKeys := false, apart := false, laid := [("unicode/utf8.acceptRanges", laid_unicode_utf8_acceptRanges), ("yardarm/history.limits", laid_yardarm_history_limits), ("yardarm/rules.asks", laid_yardarm_rules_asks), ("unicode/utf8.first", laid_unicode_utf8_first)] }
def IndexSeesSaid : Prop := indexSeesRow.holds Tryz.pinned (OpenSpec.ofChange indexSeesSpec)

/-- ITS FALSE NEIGHBOUR: 'it returns false'. Refute it at one input. -/
def indexSeesWrong : ChangeSpec := { name := "indexSees", fn := fun _ => fun
  | [d1, d2] => { results := [.lit (.bool false)], args := [d1, d2] }
  | _ => none }
def IndexSeesWrongFalsely : Prop := indexSeesRow.holds Tryz.pinned (OpenSpec.ofChange indexSeesWrong)

/-- 'yardarmlaw16.IndexVersions': WHATEVER THE INPUT: true; the input reads as it did. -/
def indexVersionsSpec : ChangeSpec := { name := "indexVersions", fn := fun _ => fun
  | [d] => { results := [.lit (.bool true)], args := [d] }
  | _ => none }
def indexVersionsRow : OpenClaim := { program := "ytdbfjfphfbcgiaagreatdoor", sum := "132a3f68d2d7592a49a348e6842e6cdccdd6763ed0b7cf509be67f5e48e01382", func := "yardarm/yardarmlaw16.IndexVersions", spec := "indexVersions", unfollowed := true, recurses := true, named := ["yardarm/history.limits", "unicode/utf8.first", "unicode/utf8.acceptRanges", "yardarm/rules.asks"], plainKeys := false, apart := false, laid := [("unicode/utf8.acceptRanges", laid_unicode_utf8_acceptRanges), ("yardarm/history.limits", laid_yardarm_history_limits), ("yardarm/rules.asks", laid_yardarm_rules_asks), ("unicode/utf8.first", laid_unicode_utf8_first)] }
def IndexVersionsSaid : Prop := indexVersionsRow.holds Tryz.pinned (OpenSpec.ofChange indexVersionsSpec)

/-- ITS FALSE NEIGHBOUR: 'it returns false'. Refute it at one input. -/
def indexVersionsWrong : ChangeSpec := { name := "indexVersions", fn := fun _ => fun
  | [d] => { results := [.lit (.bool false)], args := [d] }
  | _ => none }
def IndexVersionsWrongFalsely : Prop := indexVersionsRow.holds Tryz.pinned (OpenSpec.ofChange indexVersionsWrong)

/-- 'yardarmlaw16.IndexWhole': WHATEVER THE INPUT: true; the input reads as it did. -/
def indexWholeSpec : ChangeSpec := { name := "indexWhole", fn := fun _ => fun
  | [d] => { results := [.lit (.bool true)], args := [d] }
  | _ => none }
def indexWholeRow : OpenClaim := { program := "ytdbfjfphfbcgiaagreatdoor", sum := "132a3f68d2d7592a49a348e6842e6cdccdd6763ed0b7cf509be67f5e48e01382", func := "yardarm/yardarmlaw16.IndexWhole", spec := "indexWhole", unfollowed := true, recurses := true, named := ["yardarm/history.limits", "unicode/utf8.first", "unicode/utf8.acceptRanges", "yardarm/rules.asks"], plainKeys := false, apart := false, laid := [("unicode/utf8.acceptRanges", laid_unicode_utf8_acceptRanges), ("yardarm/history.limits", laid_yardarm_history_limits), ("yardarm/rules.asks", laid_yardarm_rules_asks), ("unicode/utf8.first", laid_unicode_utf8_first)] }
def IndexWholeSaid : Prop := indexWholeRow.holds Tryz.pinned (OpenSpec.ofChange indexWholeSpec)

/-- ITS FALSE NEIGHBOUR: 'it returns false'. Refute it at one input. -/
def indexWholeWrong : ChangeSpec := { name := "indexWhole", fn := fun _ => fun
  | [d] => { results := [.lit (.bool false)], args := [d] }
  | _ => none }
def IndexWholeWrongFalsely : Prop := indexWholeRow.holds Tryz.pinned (OpenSpec.ofChange indexWholeWrong)

/-- 'yardarmlaw17.MatchRanks': WHATEVER THE INPUT: true; the input reads as it did. -/
def matchRanksSpec : ChangeSpec := { name := "matchRanks", fn := fun _ => fun
  | [d1, d2] => { results := [.lit (.bool true)], args := [d1, d2] }
  | _ => none }
def matchRanksRow : OpenClaim := { program := "ytdbfjfphfbcgiaagreatdoor", sum := "132a3f68d2d7592a49a348e6842e6cdccdd6763ed0b7cf509be67f5e48e01382", func := "yardarm/yardarmlaw17.MatchRanks", spec := "matchRanks", unfollowed := true, recurses := true, named := ["yardarm/history.limits", "unicode/utf8.first", "unicode/utf8.acceptRanges", "yardarm/rules.asks"], plainKeys := false, apart := false, laid := [("unicode/utf8.acceptRanges", laid_unicode_utf8_acceptRanges), ("yardarm/history.limits", laid_yardarm_history_limits), ("yardarm/rules.asks", laid_yardarm_rules_asks), ("unicode/utf8.first", laid_unicode_utf8_first)] }
def MatchRanksSaid : Prop := matchRanksRow.holds Tryz.pinned (OpenSpec.ofChange matchRanksSpec)

/-- ITS FALSE NEIGHBOUR: 'it returns false'. Refute it at one input. -/
def matchRanksWrong : ChangeSpec := { name := "matchRanks", fn := fun _ => fun
  | [d1, d2] => { results := [.lit (.bool false)], args := [d1, d2] }
  | _ => none }
def MatchRanksWrongFalsely : Prop := matchRanksRow.holds Tryz.pinned (OpenSpec.ofChange matchRanksWrong)

/-- 'yardarmlaw17.MatchRuns': WHATEVER THE INPUT: true; the input reads as it did. -/
def matchRunsSpec : ChangeSpec := { name := "matchRuns", fn := fun _ => fun
  | [d1, d2, d3] => { results := [.lit (.bool true)], args := [d1, d2, d3] }
  | _ => none }
def matchRunsRow : OpenClaim := { program := "ytdbfjfphfbcgiaagreatdoor", sum := "132a3f68d2d7592a49a348e6842e6cdccdd6763ed0b7cf509be67f5e48e01382", func := "yardarm/yardarmlaw17.MatchRuns", spec := "matchRuns", unfollowed := true, recurses := true, named := ["yardarm/history.limits", "unicode/utf8.first", "unicode/utf8.acceptRanges", "yardarm/rules.asks"], plainKeys := false, apart := false, laid := [("unicode/utf8.acceptRanges", laid_unicode_utf8_acceptRanges), ("yardarm/history.limits", laid_yardarm_history_limits), ("yardarm/rules.asks", laid_yardarm_rules_asks), ("unicode/utf8.first", laid_unicode_utf8_first)] }
def MatchRunsSaid : Prop := matchRunsRow.holds Tryz.pinned (OpenSpec.ofChange matchRunsSpec)

/-- ITS FALSE NEIGHBOUR: 'it returns false'. Refute it at one input. -/
def matchRunsWrong : ChangeSpec := { name := "matchRuns", fn := fun _ => fun
  | [d1, d2, d3] => { results := [.lit (.bool false)], args := [d1, d2, d3] }
  | _ => none }
def MatchRunsWrongFalsely : Prop := matchRunsRow.holds Tryz.pinned (OpenSpec.ofChange matchRunsWrong)

/-- 'yardarmlaw17.MatchSees': WHATEVER THE INPUT: true; the input reads as it did. -/
def matchSeesSpec : ChangeSpec := { name := "matchSees", fn := fun _ => fun
  | [d] => { results := [.lit (.bool true)], args := [d] }
  | _ => none }
def matchSeesRow : OpenClaim := { program := "ytdbfjfphfbcgiaagreatdoor", sum := "132a3f68d2d7592a49a348e6842e6cdccdd6763ed0b7cf509be67f5e48e01382", func := "yardarm/yardarmlaw17.MatchSees", spec := "matchSees", unfollowed := true, recurses := true, named := ["yardarm/history.limits", "unicode/utf8.first", "unicode/utf8.acceptRanges", "yardarm/rules.asks"], plainKeys := false, apart := false, laid := [("unicode/utf8.acceptRanges", laid_unicode_utf8_acceptRanges), ("yardarm/history.limits", laid_yardarm_history_limits), ("yardarm/rules.asks", laid_yardarm_rules_asks), ("unicode/utf8.first", laid_unicode_utf8_first)] }
def MatchSeesSaid : Prop := matchSeesRow.holds Tryz.pinned (OpenSpec.ofChange matchSeesSpec)

/-- ITS FALSE NEIGHBOUR: 'it returns false'. Refute it at one input. -/
def matchSeesWrong : ChangeSpec := { name := "matchSees", fn := fun _ => fun
  | [d] => { results := [.lit (.bool false)], args := [d] }
  | _ => none }
def MatchSeesWrongFalsely : Prop := matchSeesRow.holds Tryz.pinned (OpenSpec.ofChange matchSeesWrong)

/-- 'yardarmlaw17.MatchNames': WHATEVER THE INPUT: true; the input reads as it did. -/
def matchNamesSpec : ChangeSpec := { name := "matchNames", fn := fun _ => fun
  | [d] => { results := [.lit (.bool true)], args := [d] }
  | _ => none }
def matchNamesRow : OpenClaim := { program := "ytdbfjfphfbcgiaagreatdoor", sum := "132a3f68d2d7592a49a348e6842e6cdccdd6763ed0b7cf509be67f5e48e01382", func := "yardarm/yardarmlaw17.MatchNames", spec := "matchNames", unfollowed := true, recurses := true, named := ["yardarm/history.limits", "unicode/utf8.first", "unicode/utf8.acceptRanges", "yardarm/rules.asks"], plainKeys := false, apart := false, laid := [("unicode/utf8.acceptRanges", laid_unicode_utf8_acceptRanges), ("yardarm/history.limits", laid_yardarm_history_limits), ("yardarm/rules.asks", laid_yardarm_rules_asks), ("unicode/utf8.first", laid_unicode_utf8_first)] }
def MatchNamesSaid : Prop := matchNamesRow.holds Tryz.pinned (OpenSpec.ofChange matchNamesSpec)

/-- ITS FALSE NEIGHBOUR: 'it returns false'. Refute it at one input. -/
def matchNamesWrong : ChangeSpec := { name := "matchNames", fn := fun _ => fun
  | [d] => { results := [.lit (.bool false)], args := [d] }
  | _ => none }
def MatchNamesWrongFalsely : Prop := matchNamesRow.holds Tryz.pinned (OpenSpec.ofChange matchNamesWrong)

/- THE SECOND FORM. 'bulk': how many values and letters a reading holds, each counted each time it is reached (what is shared counts as often as it is met; a slice's spare places count too). A statement '..UptoSaid' is the law's where the arguments, and the package variables that the reading takes, are together of bulk at most 1048576: NARROWER than '..Said'. Prove '..Said' where nothing that the law and all that it calls make is longer than what came in: it says more and counts as full. Else prove '..UptoSaid'. A law counts once. -/
mutual
def uptoBulk {H : Type} : DataW H → Nat
  | .lit (.string bytes) => bytes.length + 1
  | .lit _ => 1
  | .nil => 1
  | .ptr d => uptoBulk d + 1
  | .slice elems spare => uptoBulkAll elems + uptoBulkAll spare + 1
  | .agg parts => uptoBulkAll parts + 1
  | .iface _ d => uptoBulk d + 1
  | .map entries => uptoBulkEntries entries + 1
  | .held _ => 1
def uptoBulkAll {H : Type} : List (DataW H) → Nat
  | [] => 0
  | d :: r => uptoBulk d + uptoBulkAll r
def uptoBulkEntries {H : Type} : List (Lit × DataW H) → Nat
  | [] => 0
  | x :: r => uptoBulkEntry x + uptoBulkEntries r
def uptoBulkEntry {H : Type} : Lit × DataW H → Nat
  | (.string bytes, d) => bytes.length + uptoBulk d + 1
  | (_, d) => uptoBulk d + 1
 end
def uptoSmall : (H : Type) → List (DataW H) → Bool := fun _ ds => decide (uptoBulkAll ds ≤ 1048576)
def OpenSpec.upto (s : _root_.Go.ChangeSpec) : _root_.Go.OpenSpec := { _root_.Go.OpenSpec.ofChange s with cond := some uptoSmall }

/-- 'yardarmlaw15.RulesFirst', WHERE WHAT IT READS IS OF BULK AT MOST 1048576: true; the input reads as it did. -/
def rulesFirstUptoRow : OpenClaim := { program := "ytdbfjfphfbcgiaagreatdoor", sum := "132a3f68d2d7592a49a348e6842e6cdccdd6763ed0b7cf509be67f5e48e01382", func := "yardarm/yardarmlaw15.RulesFirst", spec := "rulesFirst", unfollowed := true, recurses := true, named := ["yardarm/rules.asks", "yardarm/history.limits", "unicode/utf8.first", "unicode/utf8.acceptRanges"], plainKeys := false, apart := false, laid := [("unicode/utf8.acceptRanges", laid_unicode_utf8_acceptRanges), ("yardarm/history.limits", laid_yardarm_history_limits), ("yardarm/rules.asks", laid_yardarm_rules_asks), ("unicode/utf8.first", laid_unicode_utf8_first)], narrowed := true }
def RulesFirstUptoSaid : Prop := rulesFirstUptoRow.holds Tryz.pinned (OpenSpec.upto rulesFirstSpec)

/-- 'yardarmlaw15.RulesPlaces', WHERE WHAT IT READS IS OF BULK AT MOST 1048576: true; the input reads as it did. -/
def rulesPlacesUptoRow : OpenClaim := { program := "ytdbfjfphfbcgiaagreatdoor", sum := "132a3f68d2d7592a49a348e6842e6cdccdd6763ed0b7cf509be67f5e48e01382", func := "yardarm/yardarmlaw15.RulesPlaces", spec := "rulesPlaces", unfollowed := true, recurses := true, named := ["yardarm/rules.asks", "yardarm/history.limits", "unicode/utf8.first", "unicode/utf8.acceptRanges"], plainKeys := false, apart := false, laid := [("unicode/utf8.acceptRanges", laid_unicode_utf8_acceptRanges), ("yardarm/history.limits", laid_yardarm_history_limits), ("yardarm/rules.asks", laid_yardarm_rules_asks), ("unicode/utf8.first", laid_unicode_utf8_first)], narrowed := true }
def RulesPlacesUptoSaid : Prop := rulesPlacesUptoRow.holds Tryz.pinned (OpenSpec.upto rulesPlacesSpec)

/-- 'yardarmlaw16.IndexRanks', WHERE WHAT IT READS IS OF BULK AT MOST 1048576: true; the input reads as it did. -/
def indexRanksUptoRow : OpenClaim := { program := "ytdbfjfphfbcgiaagreatdoor", sum := "132a3f68d2d7592a49a348e6842e6cdccdd6763ed0b7cf509be67f5e48e01382", func := "yardarm/yardarmlaw16.IndexRanks", spec := "indexRanks", unfollowed := true, recurses := true, named := ["yardarm/history.limits", "unicode/utf8.first", "unicode/utf8.acceptRanges", "yardarm/rules.asks"], plainKeys := false, apart := false, laid := [("unicode/utf8.acceptRanges", laid_unicode_utf8_acceptRanges), ("yardarm/history.limits", laid_yardarm_history_limits), ("yardarm/rules.asks", laid_yardarm_rules_asks), ("unicode/utf8.first", laid_unicode_utf8_first)], narrowed := true }
def IndexRanksUptoSaid : Prop := indexRanksUptoRow.holds Tryz.pinned (OpenSpec.upto indexRanksSpec)

/-- 'yardarmlaw16.IndexTells', WHERE WHAT IT READS IS OF BULK AT MOST 1048576: true; the input reads as it did. -/
def indexTellsUptoRow : OpenClaim := { program := "ytdbfjfphfbcgiaagreatdoor", sum := "132a3f68d2d7592a49a348e6842e6cdccdd6763ed0b7cf509be67f5e48e01382", func := "yardarm/yardarmlaw16.IndexTells", spec := "indexTells", unfollowed := true, recurses := true, named := ["yardarm/history.limits", "unicode/utf8.first", "unicode/utf8.acceptRanges", "yardarm/rules.asks"], plainKeys := false, apart := false, laid := [("unicode/utf8.acceptRanges", laid_unicode_utf8_acceptRanges), ("yardarm/history.limits", laid_yardarm_history_limits), ("yardarm/rules.asks", laid_yardarm_rules_asks), ("unicode/utf8.first", laid_unicode_utf8_first)], narrowed := true }
def IndexTellsUptoSaid : Prop := indexTellsUptoRow.holds Tryz.pinned (OpenSpec.upto indexTellsSpec)

/-- 'yardarmlaw16.IndexSees', WHERE WHAT IT READS IS OF BULK AT MOST 1048576: true; the input reads as it did. -/
def indexSeesUptoRow : OpenClaim := { program := "ytdbfjfphfbcgiaagreatdoor", sum := "132a3f68d2d7592a49a348e6842e6cdccdd6763ed0b7cf509be67f5e48e01382", func := "yardarm/yardarmlaw16.IndexSees", spec := "indexSees", unfollowed := true, recurses := true, named := ["yardarm/history.limits", "unicode/utf8.first", "unicode/utf8.acceptRanges", "yardarm/rules.asks"], plainKeys := false, apart := false, laid := [("unicode/utf8.acceptRanges", laid_unicode_utf8_acceptRanges), ("yardarm/history.limits", laid_yardarm_history_limits), ("yardarm/rules.asks", laid_yardarm_rules_asks), ("unicode/utf8.first", laid_unicode_utf8_first)], narrowed := true }
def IndexSeesUptoSaid : Prop := indexSeesUptoRow.holds Tryz.pinned (OpenSpec.upto indexSeesSpec)

/-- 'yardarmlaw16.IndexVersions', WHERE WHAT IT READS IS OF BULK AT MOST 1048576: true; the input reads as it did. -/
def indexVersionsUptoRow : OpenClaim := { program := "ytdbfjfphfbcgiaagreatdoor", sum := "132a3f68d2d7592a49a348e6842e6cdccdd6763ed0b7cf509be67f5e48e01382", func := "yardarm/yardarmlaw16.IndexVersions", spec := "indexVersions", unfollowed := true, recurses := true, named := ["yardarm/history.limits", "unicode/utf8.first", "unicode/utf8.acceptRanges", "yardarm/rules.asks"], plainKeys := false, apart := false, laid := [("unicode/utf8.acceptRanges", laid_unicode_utf8_acceptRanges), ("yardarm/history.limits", laid_yardarm_history_limits), ("yardarm/rules.asks", laid_yardarm_rules_asks), ("unicode/utf8.first", laid_unicode_utf8_first)], narrowed := true }
def IndexVersionsUptoSaid : Prop := indexVersionsUptoRow.holds Tryz.pinned (OpenSpec.upto indexVersionsSpec)

/-- 'yardarmlaw16.IndexWhole', WHERE WHAT IT READS IS OF BULK AT MOST 1048576: true; the input reads as it did. -/
def indexWholeUptoRow : OpenClaim := { program := "ytdbfjfphfbcgiaagreatdoor", sum := "132a3f68d2d7592a49a348e6842e6cdccdd6763ed0b7cf509be67f5e48e01382", func := "yardarm/yardarmlaw16.IndexWhole", spec := "indexWhole", unfollowed := true, recurses := true, named := ["yardarm/history.limits", "unicode/utf8.first", "unicode/utf8.acceptRanges", "yardarm/rules.asks"], plainKeys := false, apart := false, laid := [("unicode/utf8.acceptRanges", laid_unicode_utf8_acceptRanges), ("yardarm/history.limits", laid_yardarm_history_limits), ("yardarm/rules.asks", laid_yardarm_rules_asks), ("unicode/utf8.first", laid_unicode_utf8_first)], narrowed := true }
def IndexWholeUptoSaid : Prop := indexWholeUptoRow.holds Tryz.pinned (OpenSpec.upto indexWholeSpec)

/-- 'yardarmlaw17.MatchRanks', WHERE WHAT IT READS IS OF BULK AT MOST 1048576: true; the input reads as it did. -/
def matchRanksUptoRow : OpenClaim := { program := "ytdbfjfphfbcgiaagreatdoor", sum := "132a3f68d2d7592a49a348e6842e6cdccdd6763ed0b7cf509be67f5e48e01382", func := "yardarm/yardarmlaw17.MatchRanks", spec := "matchRanks", unfollowed := true, recurses := true, named := ["yardarm/history.limits", "unicode/utf8.first", "unicode/utf8.acceptRanges", "yardarm/rules.asks"], plainKeys := false, apart := false, laid := [("unicode/utf8.acceptRanges", laid_unicode_utf8_acceptRanges), ("yardarm/history.limits", laid_yardarm_history_limits), ("yardarm/rules.asks", laid_yardarm_rules_asks), ("unicode/utf8.first", laid_unicode_utf8_first)], narrowed := true }
def MatchRanksUptoSaid : Prop := matchRanksUptoRow.holds Tryz.pinned (OpenSpec.upto matchRanksSpec)

/-- 'yardarmlaw17.MatchRuns', WHERE WHAT IT READS IS OF BULK AT MOST 1048576: true; the input reads as it did. -/
def matchRunsUptoRow : OpenClaim := { program := "ytdbfjfphfbcgiaagreatdoor", sum := "132a3f68d2d7592a49a348e6842e6cdccdd6763ed0b7cf509be67f5e48e01382", func := "yardarm/yardarmlaw17.MatchRuns", spec := "matchRuns", unfollowed := true, recurses := true, named := ["yardarm/history.limits", "unicode/utf8.first", "unicode/utf8.acceptRanges", "yardarm/rules.asks"], plainKeys := false, apart := false, laid := [("unicode/utf8.acceptRanges", laid_unicode_utf8_acceptRanges), ("yardarm/history.limits", laid_yardarm_history_limits), ("yardarm/rules.asks", laid_yardarm_rules_asks), ("unicode/utf8.first", laid_unicode_utf8_first)], narrowed := true }
def MatchRunsUptoSaid : Prop := matchRunsUptoRow.holds Tryz.pinned (OpenSpec.upto matchRunsSpec)

/-- 'yardarmlaw17.MatchSees', WHERE WHAT IT READS IS OF BULK AT MOST 1048576: true; the input reads as it did. -/
def matchSeesUptoRow : OpenClaim := { program := "ytdbfjfphfbcgiaagreatdoor", sum := "132a3f68d2d7592a49a348e6842e6cdccdd6763ed0b7cf509be67f5e48e01382", func := "yardarm/yardarmlaw17.MatchSees", spec := "matchSees", unfollowed := true, recurses := true, named := ["yardarm/history.limits", "unicode/utf8.first", "unicode/utf8.acceptRanges", "yardarm/rules.asks"], plainKeys := false, apart := false, laid := [("unicode/utf8.acceptRanges", laid_unicode_utf8_acceptRanges), ("yardarm/history.limits", laid_yardarm_history_limits), ("yardarm/rules.asks", laid_yardarm_rules_asks), ("unicode/utf8.first", laid_unicode_utf8_first)], narrowed := true }
def MatchSeesUptoSaid : Prop := matchSeesUptoRow.holds Tryz.pinned (OpenSpec.upto matchSeesSpec)

/-- 'yardarmlaw17.MatchNames', WHERE WHAT IT READS IS OF BULK AT MOST 1048576: true; the input reads as it did. -/
def matchNamesUptoRow : OpenClaim := { program := "ytdbfjfphfbcgiaagreatdoor", sum := "132a3f68d2d7592a49a348e6842e6cdccdd6763ed0b7cf509be67f5e48e01382", func := "yardarm/yardarmlaw17.MatchNames", spec := "matchNames", unfollowed := true, recurses := true, named := ["yardarm/history.limits", "unicode/utf8.first", "unicode/utf8.acceptRanges", "yardarm/rules.asks"], plainKeys := false, apart := false, laid := [("unicode/utf8.acceptRanges", laid_unicode_utf8_acceptRanges), ("yardarm/history.limits", laid_yardarm_history_limits), ("yardarm/rules.asks", laid_yardarm_rules_asks), ("unicode/utf8.first", laid_unicode_utf8_first)], narrowed := true }
def MatchNamesUptoSaid : Prop := matchNamesUptoRow.holds Tryz.pinned (OpenSpec.upto matchNamesSpec)

end Rows
end Go.Proofs.YtdbfjfphfbcgiaaGreatDoor
