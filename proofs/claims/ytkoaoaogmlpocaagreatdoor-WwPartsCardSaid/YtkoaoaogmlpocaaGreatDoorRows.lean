/-
  NARROWER THAN 'FOR EVERY INPUT', by the rows' own cells (each row's printed sentence says how): DirtyTells: laid · DirtyIs: laid · DirtyEvents: laid · DirtyRises: laid · WwOrders: laid · WwOne: laid · WwAll: laid · WwJustified: laid · WwChains: laid · WwParts: laid.
  DERIVED. THE GIVEN ROWS OF THIS SEAT. 10 by the template 'for every input the law returns true; each argument reads behind the call as it read before'; 0 by the template 'total and deterministic' (their statements: YtkoaoaogmlpocaaGreatDoorTotals.lean).
  GIVEN WITH THE SEED: the statements are not yours to turn. If you find one false, say at which input.
  Laid BY PROGRAM, IN A SANDBOX (cutbox-rows.mjs): the forced cells as the released guide's own fill.sh prints them over the translation 02547304f6bf7ef2… (all of the seat's roots in one cut). By AI agents, Wed Nov 11 2026. No macro, syntax, notation, axiom, sorry.
-/
import Derived.Test.YtkoaoaogmlpocaaGreatDoorChecked
import GoSem.PinnedTables
import GoSem.Claim
import GoSem.ClaimJoined
import GoSem.ClaimMapViews
import Derived.JoinedTies
import Derived.KernelRfl
namespace Go.Proofs.YtkoaoaogmlpocaaGreatDoor
/- THE CELL 'sum', in the pinned program and in every row, IS THE sha256 OF THE DUMP (.gsa) THAT YtkoaoaogmlpocaaGreatDoorProg.lean LOADS. Nothing in Lean hashes anything: it is a label: what it is worth is what the hold of that sum in a sandbox is worth. -/
noncomputable def Tryz.pinned : Pinned := { name := "ytkoaoaogmlpocaagreatdoor", sum := "02547304f6bf7ef22ce3973a3bc9421b697c70ecde49d059990e252769018d3c", checked := Tryz.checked }
namespace Rows
def none {H : Type} : Left H := { results := [], args := [] }

/- WHAT THE LISTED PACKAGE-LEVEL VARIABLES READ AS WHEN THE CALL BEGINS. Each datum BY PROGRAM (the guide's laid-datum.mjs) off the statement by which the dump's own 'gosem.cut.vars' lays the variable. In a bare row this is a premise. The card (YtkoaoaogmlpocaaGreatDoorCards.lean) ties it to the program's text. -/
def laid_unicode_utf8_acceptRanges {H : Type} : DataW H := .agg [.agg [.lit (.int .u8 128), .lit (.int .u8 191)], .agg [.lit (.int .u8 160), .lit (.int .u8 191)], .agg [.lit (.int .u8 128), .lit (.int .u8 159)], .agg [.lit (.int .u8 144), .lit (.int .u8 191)], .agg [.lit (.int .u8 128), .lit (.int .u8 143)], .agg [.lit (.int .u8 0), .lit (.int .u8 0)], .agg [.lit (.int .u8 0), .lit (.int .u8 0)], .agg [.lit (.int .u8 0), .lit (.int .u8 0)], .agg [.lit (.int .u8 0), .lit (.int .u8 0)], .agg [.lit (.int .u8 0), .lit (.int .u8 0)], .agg [.lit (.int .u8 0), .lit (.int .u8 0)], .agg [.lit (.int .u8 0), .lit (.int .u8 0)], .agg [.lit (.int .u8 0), .lit (.int .u8 0)], .agg [.lit (.int .u8 0), .lit (.int .u8 0)], .agg [.lit (.int .u8 0), .lit (.int .u8 0)], .agg [.lit (.int .u8 0), .lit (.int .u8 0)]]
def laid_yardarm_history_limits {H : Type} : DataW H := .agg [.lit (.int .i64 300), .lit (.int .i64 60), .lit (.int .i64 300), .lit (.int .i64 60)]
def laid_yardarm_rules_asks {H : Type} : DataW H := .iface "func table" (.agg [.nil, .iface "func" (.lit (.string [40, 42, 121, 97, 114, 100, 97, 114, 109, 47, 114, 117, 108, 101, 115, 46, 108, 111, 111, 107, 41, 46, 98, 101, 103, 105, 110])), .iface "func" (.lit (.string [40, 42, 121, 97, 114, 100, 97, 114, 109, 47, 114, 117, 108, 101, 115, 46, 108, 111, 111, 107, 41, 46, 101, 110, 100])), .iface "func" (.lit (.string [40, 42, 121, 97, 114, 100, 97, 114, 109, 47, 114, 117, 108, 101, 115, 46, 108, 111, 111, 107, 41, 46, 99, 111, 117, 110, 116])), .iface "func" (.lit (.string [40, 42, 121, 97, 114, 100, 97, 114, 109, 47, 114, 117, 108, 101, 115, 46, 108, 111, 111, 107, 41, 46, 119, 114, 105, 116, 116, 101, 110])), .iface "func" (.lit (.string [40, 42, 121, 97, 114, 100, 97, 114, 109, 47, 114, 117, 108, 101, 115, 46, 108, 111, 111, 107, 41, 46, 111, 119, 110])), .iface "func" (.lit (.string [40, 42, 121, 97, 114, 100, 97, 114, 109, 47, 114, 117, 108, 101, 115, 46, 108, 111, 111, 107, 41, 46, 115, 99, 97, 110])), .iface "func" (.lit (.string [40, 42, 121, 97, 114, 100, 97, 114, 109, 47, 114, 117, 108, 101, 115, 46, 108, 111, 111, 107, 41, 46, 111, 114, 100, 101, 114])), .iface "func" (.lit (.string [40, 42, 121, 97, 114, 100, 97, 114, 109, 47, 114, 117, 108, 101, 115, 46, 108, 111, 111, 107, 41, 46, 109, 105, 115, 115, 105, 110, 103])), .iface "func" (.lit (.string [40, 42, 121, 97, 114, 100, 97, 114, 109, 47, 114, 117, 108, 101, 115, 46, 108, 111, 111, 107, 41, 46, 109, 97, 116, 99, 104])), .iface "func" (.lit (.string [40, 42, 121, 97, 114, 100, 97, 114, 109, 47, 114, 117, 108, 101, 115, 46, 108, 111, 111, 107, 41, 46, 119, 97, 110, 116]))])
/-- One of Go's own tables, pinned by name: the form's constant. -/
def laid_unicode_utf8_first : DataW Unit := Go.Pinned.utf8First

/-- 'yardarmlaw23.DirtyTells': WHATEVER THE INPUT: true; the input reads as it did. -/
def dirtyTellsSpec : ChangeSpec := { name := "dirtyTells", fn := fun _ => fun
  | [d1, d2] => { results := [.lit (.bool true)], args := [d1, d2] }
  | _ => none }
def dirtyTellsRow : OpenClaim := { program := "ytkoaoaogmlpocaagreatdoor", sum := "02547304f6bf7ef22ce3973a3bc9421b697c70ecde49d059990e252769018d3c", func := "yardarm/yardarmlaw23.DirtyTells", spec := "dirtyTells", unfollowed := true, recurses := true, named := ["yardarm/history.limits", "unicode/utf8.first", "unicode/utf8.acceptRanges", "yardarm/rules.asks"], plainKeys := false, apart := false, laid := [("unicode/utf8.acceptRanges", laid_unicode_utf8_acceptRanges), ("yardarm/history.limits", laid_yardarm_history_limits), ("yardarm/rules.asks", laid_yardarm_rules_asks), ("unicode/utf8.first", laid_unicode_utf8_first)] }
def DirtyTellsSaid : Prop := dirtyTellsRow.holds Tryz.pinned (OpenSpec.ofChange dirtyTellsSpec)

/-- ITS FALSE NEIGHBOUR: 'it returns false'. Refute it at one input. -/
def dirtyTellsWrong : ChangeSpec := { name := "dirtyTells", fn := fun _ => fun
  | [d1, d2] => { results := [.lit (.bool false)], args := [d1, d2] }
  | _ => none }
def DirtyTellsWrongFalsely : Prop := dirtyTellsRow.holds Tryz.pinned (OpenSpec.ofChange dirtyTellsWrong)

/-- 'yardarmlaw23.DirtyIs': WHATEVER THE INPUT: true; the input reads as it did. -/
def dirtyIsSpec : ChangeSpec := { name := "dirtyIs", fn := fun _ => fun
  | [d1, d2, d3] => { results := [.lit (.bool true)], args := [d1, d2, d3] }
  | _ => none }
def dirtyIsRow : OpenClaim := { program := "ytkoaoaogmlpocaagreatdoor", sum := "02547304f6bf7ef22ce3973a3bc9421b697c70ecde49d059990e252769018d3c", func := "yardarm/yardarmlaw23.DirtyIs", spec := "dirtyIs", unfollowed := true, recurses := true, named := ["yardarm/history.limits", "unicode/utf8.first", "unicode/utf8.acceptRanges", "yardarm/rules.asks"], plainKeys := false, apart := false, laid := [("unicode/utf8.acceptRanges", laid_unicode_utf8_acceptRanges), ("yardarm/history.limits", laid_yardarm_history_limits), ("yardarm/rules.asks", laid_yardarm_rules_asks), ("unicode/utf8.first", laid_unicode_utf8_first)] }
def DirtyIsSaid : Prop := dirtyIsRow.holds Tryz.pinned (OpenSpec.ofChange dirtyIsSpec)

/-- ITS FALSE NEIGHBOUR: 'it returns false'. Refute it at one input. -/
def dirtyIsWrong : ChangeSpec := { name := "dirtyIs", fn := fun _ => fun
  | [d1, d2, d3] => { results := [.lit (.bool false)], args := [d1, d2, d3] }
  | _ => none }
def DirtyIsWrongFalsely : Prop := dirtyIsRow.holds Tryz.pinned (OpenSpec.ofChange dirtyIsWrong)

/-- 'yardarmlaw23.DirtyEvents': WHATEVER THE INPUT: true; the input reads as it did. -/
def dirtyEventsSpec : ChangeSpec := { name := "dirtyEvents", fn := fun _ => fun
  | [d1, d2] => { results := [.lit (.bool true)], args := [d1, d2] }
  | _ => none }
def dirtyEventsRow : OpenClaim := { program := "ytkoaoaogmlpocaagreatdoor", sum := "02547304f6bf7ef22ce3973a3bc9421b697c70ecde49d059990e252769018d3c", func := "yardarm/yardarmlaw23.DirtyEvents", spec := "dirtyEvents", unfollowed := true, recurses := true, named := ["yardarm/history.limits", "unicode/utf8.first", "unicode/utf8.acceptRanges", "yardarm/rules.asks"], plainKeys := false, apart := false, laid := [("unicode/utf8.acceptRanges", laid_unicode_utf8_acceptRanges), ("yardarm/history.limits", laid_yardarm_history_limits), ("yardarm/rules.asks", laid_yardarm_rules_asks), ("unicode/utf8.first", laid_unicode_utf8_first)] }
def DirtyEventsSaid : Prop := dirtyEventsRow.holds Tryz.pinned (OpenSpec.ofChange dirtyEventsSpec)

/-- ITS FALSE NEIGHBOUR: 'it returns false'. Refute it at one input. -/
def dirtyEventsWrong : ChangeSpec := { name := "dirtyEvents", fn := fun _ => fun
  | [d1, d2] => { results := [.lit (.bool false)], args := [d1, d2] }
  | _ => none }
def DirtyEventsWrongFalsely : Prop := dirtyEventsRow.holds Tryz.pinned (OpenSpec.ofChange dirtyEventsWrong)

/-- 'yardarmlaw23.DirtyRises': WHATEVER THE INPUT: true; the input reads as it did. -/
def dirtyRisesSpec : ChangeSpec := { name := "dirtyRises", fn := fun _ => fun
  | [d1, d2, d3] => { results := [.lit (.bool true)], args := [d1, d2, d3] }
  | _ => none }
def dirtyRisesRow : OpenClaim := { program := "ytkoaoaogmlpocaagreatdoor", sum := "02547304f6bf7ef22ce3973a3bc9421b697c70ecde49d059990e252769018d3c", func := "yardarm/yardarmlaw23.DirtyRises", spec := "dirtyRises", unfollowed := true, recurses := true, named := ["yardarm/history.limits", "unicode/utf8.first", "unicode/utf8.acceptRanges", "yardarm/rules.asks"], plainKeys := false, apart := false, laid := [("unicode/utf8.acceptRanges", laid_unicode_utf8_acceptRanges), ("yardarm/history.limits", laid_yardarm_history_limits), ("yardarm/rules.asks", laid_yardarm_rules_asks), ("unicode/utf8.first", laid_unicode_utf8_first)] }
def DirtyRisesSaid : Prop := dirtyRisesRow.holds Tryz.pinned (OpenSpec.ofChange dirtyRisesSpec)

/-- ITS FALSE NEIGHBOUR: 'it returns false'. Refute it at one input. -/
def dirtyRisesWrong : ChangeSpec := { name := "dirtyRises", fn := fun _ => fun
  | [d1, d2, d3] => { results := [.lit (.bool false)], args := [d1, d2, d3] }
  | _ => none }
def DirtyRisesWrongFalsely : Prop := dirtyRisesRow.holds Tryz.pinned (OpenSpec.ofChange dirtyRisesWrong)

/-- 'yardarmlaw18.WwOrders': WHATEVER THE INPUT: true; the input reads as it did. -/
def wwOrdersSpec : ChangeSpec := { name := "wwOrders", fn := fun _ => fun
  | [d] => { results := [.lit (.bool true)], args := [d] }
  | _ => none }
def wwOrdersRow : OpenClaim := { program := "ytkoaoaogmlpocaagreatdoor", sum := "02547304f6bf7ef22ce3973a3bc9421b697c70ecde49d059990e252769018d3c", func := "yardarm/yardarmlaw18.WwOrders", spec := "wwOrders", unfollowed := true, recurses := true, named := ["yardarm/history.limits", "unicode/utf8.first", "unicode/utf8.acceptRanges", "yardarm/rules.asks"], plainKeys := false, apart := false, laid := [("unicode/utf8.acceptRanges", laid_unicode_utf8_acceptRanges), ("yardarm/history.limits", laid_yardarm_history_limits), ("yardarm/rules.asks", laid_yardarm_rules_asks), ("unicode/utf8.first", laid_unicode_utf8_first)] }
def WwOrdersSaid : Prop := wwOrdersRow.holds Tryz.pinned (OpenSpec.ofChange wwOrdersSpec)

/-- ITS FALSE NEIGHBOUR: 'it returns false'. Refute it at one input. -/
def wwOrdersWrong : ChangeSpec := { name := "wwOrders", fn := fun _ => fun
  | [d] => { results := [.lit (.bool false)], args := [d] }
  | _ => none }
def WwOrdersWrongFalsely : Prop := wwOrdersRow.holds Tryz.pinned (OpenSpec.ofChange wwOrdersWrong)

/-- 'yardarmlaw18.WwOne': WHATEVER THE INPUT: true; the input reads as it did. -/
def wwOneSpec : ChangeSpec := { name := "wwOne", fn := fun _ => fun
  | [d1, d2, d3] => { results := [.lit (.bool true)], args := [d1, d2, d3] }
  | _ => none }
def wwOneRow : OpenClaim := { program := "ytkoaoaogmlpocaagreatdoor", sum := "02547304f6bf7ef22ce3973a3bc9421b697c70ecde49d059990e252769018d3c", func := "yardarm/yardarmlaw18.WwOne", spec := "wwOne", unfollowed := true, recurses := true, named := ["yardarm/history.limits", "unicode/utf8.first", "unicode/utf8.acceptRanges", "yardarm/rules.asks"], plainKeys := false, apart := false, laid := [("unicode/utf8.acceptRanges", laid_unicode_utf8_acceptRanges), ("yardarm/history.limits", laid_yardarm_history_limits), ("yardarm/rules.asks", laid_yardarm_rules_asks), ("unicode/utf8.first", laid_unicode_utf8_first)] }
def WwOneSaid : Prop := wwOneRow.holds Tryz.pinned (OpenSpec.ofChange wwOneSpec)

/-- ITS FALSE NEIGHBOUR: 'it returns false'. Refute it at one input. -/
def wwOneWrong : ChangeSpec := { name := "wwOne", fn := fun _ => fun
  | [d1, d2, d3] => { results := [.lit (.bool false)], args := [d1, d2, d3] }
  | _ => none }
def WwOneWrongFalsely : Prop := wwOneRow.holds Tryz.pinned (OpenSpec.ofChange wwOneWrong)

/-- 'yardarmlaw18.WwAll': WHATEVER THE INPUT: true; the input reads as it did. -/
def wwAllSpec : ChangeSpec := { name := "wwAll", fn := fun _ => fun
  | [d1, d2, d3] => { results := [.lit (.bool true)], args := [d1, d2, d3] }
  | _ => none }
def wwAllRow : OpenClaim := { program := "ytkoaoaogmlpocaagreatdoor", sum := "02547304f6bf7ef22ce3973a3bc9421b697c70ecde49d059990e252769018d3c", func := "yardarm/yardarmlaw18.WwAll", spec := "wwAll", unfollowed := true, recurses := true, named := ["yardarm/history.limits", "unicode/utf8.first", "unicode/utf8.acceptRanges", "yardarm/rules.asks"], plainKeys := false, apart := false, laid := [("unicode/utf8.acceptRanges", laid_unicode_utf8_acceptRanges), ("yardarm/history.limits", laid_yardarm_history_limits), ("yardarm/rules.asks", laid_yardarm_rules_asks), ("unicode/utf8.first", laid_unicode_utf8_first)] }
def WwAllSaid : Prop := wwAllRow.holds Tryz.pinned (OpenSpec.ofChange wwAllSpec)

/-- ITS FALSE NEIGHBOUR: 'it returns false'. Refute it at one input. -/
def wwAllWrong : ChangeSpec := { name := "wwAll", fn := fun _ => fun
  | [d1, d2, d3] => { results := [.lit (.bool false)], args := [d1, d2, d3] }
  | _ => none }
def WwAllWrongFalsely : Prop := wwAllRow.holds Tryz.pinned (OpenSpec.ofChange wwAllWrong)

/-- 'yardarmlaw18.WwJustified': WHATEVER THE INPUT: true; the input reads as it did. -/
def wwJustifiedSpec : ChangeSpec := { name := "wwJustified", fn := fun _ => fun
  | [d1, d2] => { results := [.lit (.bool true)], args := [d1, d2] }
  | _ => none }
def wwJustifiedRow : OpenClaim := { program := "ytkoaoaogmlpocaagreatdoor", sum := "02547304f6bf7ef22ce3973a3bc9421b697c70ecde49d059990e252769018d3c", func := "yardarm/yardarmlaw18.WwJustified", spec := "wwJustified", unfollowed := true, recurses := true, named := ["yardarm/history.limits", "unicode/utf8.first", "unicode/utf8.acceptRanges", "yardarm/rules.asks"], plainKeys := false, apart := false, laid := [("unicode/utf8.acceptRanges", laid_unicode_utf8_acceptRanges), ("yardarm/history.limits", laid_yardarm_history_limits), ("yardarm/rules.asks", laid_yardarm_rules_asks), ("unicode/utf8.first", laid_unicode_utf8_first)] }
def WwJustifiedSaid : Prop := wwJustifiedRow.holds Tryz.pinned (OpenSpec.ofChange wwJustifiedSpec)

/-- ITS FALSE NEIGHBOUR: 'it returns false'. Refute it at one input. -/
def wwJustifiedWrong : ChangeSpec := { name := "wwJustified", fn := fun _ => fun
  | [d1, d2] => { results := [.lit (.bool false)], args := [d1, d2] }
  | _ => none }
def WwJustifiedWrongFalsely : Prop := wwJustifiedRow.holds Tryz.pinned (OpenSpec.ofChange wwJustifiedWrong)

/-- 'yardarmlaw18.WwChains': WHATEVER THE INPUT: true; the input reads as it did. -/
def wwChainsSpec : ChangeSpec := { name := "wwChains", fn := fun _ => fun
  | [d1, d2, d3] => { results := [.lit (.bool true)], args := [d1, d2, d3] }
  | _ => none }
def wwChainsRow : OpenClaim := { program := "ytkoaoaogmlpocaagreatdoor", sum := "02547304f6bf7ef22ce3973a3bc9421b697c70ecde49d059990e252769018d3c", func := "yardarm/yardarmlaw18.WwChains", spec := "wwChains", unfollowed := true, recurses := true, named := ["yardarm/history.limits", "unicode/utf8.first", "unicode/utf8.acceptRanges", "yardarm/rules.asks"], plainKeys := false, apart := false, laid := [("unicode/utf8.acceptRanges", laid_unicode_utf8_acceptRanges), ("yardarm/history.limits", laid_yardarm_history_limits), ("yardarm/rules.asks", laid_yardarm_rules_asks), ("unicode/utf8.first", laid_unicode_utf8_first)] }
def WwChainsSaid : Prop := wwChainsRow.holds Tryz.pinned (OpenSpec.ofChange wwChainsSpec)

/-- ITS FALSE NEIGHBOUR: 'it returns false'. Refute it at one input. -/
def wwChainsWrong : ChangeSpec := { name := "wwChains", fn := fun _ => fun
  | [d1, d2, d3] => { results := [.lit (.bool false)], args := [d1, d2, d3] }
  | _ => none }
def WwChainsWrongFalsely : Prop := wwChainsRow.holds Tryz.pinned (OpenSpec.ofChange wwChainsWrong)

/-- 'yardarmlaw18.WwParts': WHATEVER THE INPUT: true; the input reads as it did. -/
def wwPartsSpec : ChangeSpec := { name := "wwParts", fn := fun _ => fun
  | [d] => { results := [.lit (.bool true)], args := [d] }
  | _ => none }
def wwPartsRow : OpenClaim := { program := "ytkoaoaogmlpocaagreatdoor", sum := "02547304f6bf7ef22ce3973a3bc9421b697c70ecde49d059990e252769018d3c", func := "yardarm/yardarmlaw18.WwParts", spec := "wwParts", unfollowed := true, recurses := true, named := ["yardarm/history.limits", "unicode/utf8.first", "unicode/utf8.acceptRanges", "yardarm/rules.asks"], plainKeys := false, apart := false, laid := [("unicode/utf8.acceptRanges", laid_unicode_utf8_acceptRanges), ("yardarm/history.limits", laid_yardarm_history_limits), ("yardarm/rules.asks", laid_yardarm_rules_asks), ("unicode/utf8.first", laid_unicode_utf8_first)] }
def WwPartsSaid : Prop := wwPartsRow.holds Tryz.pinned (OpenSpec.ofChange wwPartsSpec)

/-- ITS FALSE NEIGHBOUR: 'it returns false'. Refute it at one input. -/
def wwPartsWrong : ChangeSpec := { name := "wwParts", fn := fun _ => fun
  | [d] => { results := [.lit (.bool false)], args := [d] }
  | _ => none }
def WwPartsWrongFalsely : Prop := wwPartsRow.holds Tryz.pinned (OpenSpec.ofChange wwPartsWrong)

/- THE SECOND FORM. 'bulk': how many values and letters a reading holds, each counted each time it is reached (what is shared counts as often as it is met; a slice's spare places count too). A statement '..UptoSaid' is the law's where the arguments, and the package variables that the reading takes, are together of bulk at most 1048576: NARROWER than '..Said'. Prove '..Said' where nothing that the law and all that it calls make is longer than what came in: it says more and counts as full. Else prove '..UptoSaid'. A law counts once. -/
mutual
def uptoBulk {H : Type} : DataW H → Nat
  | .lit (.string bytes) => bytes.length + 1
  | .lit _ => 1
  | .nil => 1
  | .ptr d => uptoBulk d + 1
  | .slice elems spare => uptoBulkAll elems + uptoBulkAll spare + 1
  | .agg parts => uptoBulkAll parts + 1
  | .iface _ d => uptoBulk d + 1
  | .map entries => uptoBulkEntries entries + 1
  | .held _ => 1
def uptoBulkAll {H : Type} : List (DataW H) → Nat
  | [] => 0
  | d :: r => uptoBulk d + uptoBulkAll r
def uptoBulkEntries {H : Type} : List (Lit × DataW H) → Nat
  | [] => 0
  | x :: r => uptoBulkEntry x + uptoBulkEntries r
def uptoBulkEntry {H : Type} : Lit × DataW H → Nat
  | (.string bytes, d) => bytes.length + uptoBulk d + 1
  | (_, d) => uptoBulk d + 1
 end
def uptoSmall : (H : Type) → List (DataW H) → Bool := fun _ ds => decide (uptoBulkAll ds ≤ 1048576)
def OpenSpec.upto (s : _root_.Go.ChangeSpec) : _root_.Go.OpenSpec := { _root_.Go.OpenSpec.ofChange s with cond := some uptoSmall }

/-- 'yardarmlaw23.DirtyTells', WHERE WHAT IT READS IS OF BULK AT MOST 1048576: true; the input reads as it did. -/
def dirtyTellsUptoRow : OpenClaim := { program := "ytkoaoaogmlpocaagreatdoor", sum := "02547304f6bf7ef22ce3973a3bc9421b697c70ecde49d059990e252769018d3c", func := "yardarm/yardarmlaw23.DirtyTells", spec := "dirtyTells", unfollowed := true, recurses := true, named := ["yardarm/history.limits", "unicode/utf8.first", "unicode/utf8.acceptRanges", "yardarm/rules.asks"], plainKeys := false, apart := false, laid := [("unicode/utf8.acceptRanges", laid_unicode_utf8_acceptRanges), ("yardarm/history.limits", laid_yardarm_history_limits), ("yardarm/rules.asks", laid_yardarm_rules_asks), ("unicode/utf8.first", laid_unicode_utf8_first)], narrowed := true }
def DirtyTellsUptoSaid : Prop := dirtyTellsUptoRow.holds Tryz.pinned (OpenSpec.upto dirtyTellsSpec)

/-- 'yardarmlaw23.DirtyIs', WHERE WHAT IT READS IS OF BULK AT MOST 1048576: true; the input reads as it did. -/
def dirtyIsUptoRow : OpenClaim := { program := "ytkoaoaogmlpocaagreatdoor", sum := "02547304f6bf7ef22ce3973a3bc9421b697c70ecde49d059990e252769018d3c", func := "yardarm/yardarmlaw23.DirtyIs", spec := "dirtyIs", unfollowed := true, recurses := true, named := ["yardarm/history.limits", "unicode/utf8.first", "unicode/utf8.acceptRanges", "yardarm/rules.asks"], plainKeys := false, apart := false, laid := [("unicode/utf8.acceptRanges", laid_unicode_utf8_acceptRanges), ("yardarm/history.limits", laid_yardarm_history_limits), ("yardarm/rules.asks", laid_yardarm_rules_asks), ("unicode/utf8.first", laid_unicode_utf8_first)], narrowed := true }
def DirtyIsUptoSaid : Prop := dirtyIsUptoRow.holds Tryz.pinned (OpenSpec.upto dirtyIsSpec)

/-- 'yardarmlaw23.DirtyEvents', WHERE WHAT IT READS IS OF BULK AT MOST 1048576: true; the input reads as it did. -/
def dirtyEventsUptoRow : OpenClaim := { program := "ytkoaoaogmlpocaagreatdoor", sum := "02547304f6bf7ef22ce3973a3bc9421b697c70ecde49d059990e252769018d3c", func := "yardarm/yardarmlaw23.DirtyEvents", spec := "dirtyEvents", unfollowed := true, recurses := true, named := ["yardarm/history.limits", "unicode/utf8.first", "unicode/utf8.acceptRanges", "yardarm/rules.asks"], plainKeys := false, apart := false, laid := [("unicode/utf8.acceptRanges", laid_unicode_utf8_acceptRanges), ("yardarm/history.limits", laid_yardarm_history_limits), ("yardarm/rules.asks", laid_yardarm_rules_asks), ("unicode/utf8.first", laid_unicode_utf8_first)], narrowed := true }
def DirtyEventsUptoSaid : Prop := dirtyEventsUptoRow.holds Tryz.pinned (OpenSpec.upto dirtyEventsSpec)

/-- 'yardarmlaw23.DirtyRises', WHERE WHAT IT READS IS OF BULK AT MOST 1048576: true; the input reads as it did. -/
def dirtyRisesUptoRow : OpenClaim := { program := "ytkoaoaogmlpocaagreatdoor", sum := "02547304f6bf7ef22ce3973a3bc9421b697c70ecde49d059990e252769018d3c", func := "yardarm/yardarmlaw23.DirtyRises", spec := "dirtyRises", unfollowed := true, recurses := true, named := ["yardarm/history.limits", "unicode/utf8.first", "unicode/utf8.acceptRanges", "yardarm/rules.asks"], plainKeys := false, apart := false, laid := [("unicode/utf8.acceptRanges", laid_unicode_utf8_acceptRanges), ("yardarm/history.limits", laid_yardarm_history_limits), ("yardarm/rules.asks", laid_yardarm_rules_asks), ("unicode/utf8.first", laid_unicode_utf8_first)], narrowed := true }
def DirtyRisesUptoSaid : Prop := dirtyRisesUptoRow.holds Tryz.pinned (OpenSpec.upto dirtyRisesSpec)

/-- 'yardarmlaw18.WwOrders', WHERE WHAT IT READS IS OF BULK AT MOST 1048576: true; the input reads as it did. -/
def wwOrdersUptoRow : OpenClaim := { program := "ytkoaoaogmlpocaagreatdoor", sum := "02547304f6bf7ef22ce3973a3bc9421b697c70ecde49d059990e252769018d3c", func := "yardarm/yardarmlaw18.WwOrders", spec := "wwOrders", unfollowed := true, recurses := true, named := ["yardarm/history.limits", "unicode/utf8.first", "unicode/utf8.acceptRanges", "yardarm/rules.asks"], plainKeys := false, apart := false, laid := [("unicode/utf8.acceptRanges", laid_unicode_utf8_acceptRanges), ("yardarm/history.limits", laid_yardarm_history_limits), ("yardarm/rules.asks", laid_yardarm_rules_asks), ("unicode/utf8.first", laid_unicode_utf8_first)], narrowed := true }
def WwOrdersUptoSaid : Prop := wwOrdersUptoRow.holds Tryz.pinned (OpenSpec.upto wwOrdersSpec)

/-- 'yardarmlaw18.WwOne', WHERE WHAT IT READS IS OF BULK AT MOST 1048576: true; the input reads as it did. -/
def wwOneUptoRow : OpenClaim := { program := "ytkoaoaogmlpocaagreatdoor", sum := "02547304f6bf7ef22ce3973a3bc9421b697c70ecde49d059990e252769018d3c", func := "yardarm/yardarmlaw18.WwOne", spec := "wwOne", unfollowed := true, recurses := true, named := ["yardarm/history.limits", "unicode/utf8.first", "unicode/utf8.acceptRanges", "yardarm/rules.asks"], plainKeys := false, apart := false, laid := [("unicode/utf8.acceptRanges", laid_unicode_utf8_acceptRanges), ("yardarm/history.limits", laid_yardarm_history_limits), ("yardarm/rules.asks", laid_yardarm_rules_asks), ("unicode/utf8.first", laid_unicode_utf8_first)], narrowed := true }
def WwOneUptoSaid : Prop := wwOneUptoRow.holds Tryz.pinned (OpenSpec.upto wwOneSpec)

/-- 'yardarmlaw18.WwAll', WHERE WHAT IT READS IS OF BULK AT MOST 1048576: true; the input reads as it did. -/
def wwAllUptoRow : OpenClaim := { program := "ytkoaoaogmlpocaagreatdoor", sum := "02547304f6bf7ef22ce3973a3bc9421b697c70ecde49d059990e252769018d3c", func := "yardarm/yardarmlaw18.WwAll", spec := "wwAll", unfollowed := true, recurses := true, named := ["yardarm/history.limits", "unicode/utf8.first", "unicode/utf8.acceptRanges", "yardarm/rules.asks"], plainKeys := false, apart := false, laid := [("unicode/utf8.acceptRanges", laid_unicode_utf8_acceptRanges), ("yardarm/history.limits", laid_yardarm_history_limits), ("yardarm/rules.asks", laid_yardarm_rules_asks), ("unicode/utf8.first", laid_unicode_utf8_first)], narrowed := true }
def WwAllUptoSaid : Prop := wwAllUptoRow.holds Tryz.pinned (OpenSpec.upto wwAllSpec)

/-- 'yardarmlaw18.WwJustified', WHERE WHAT IT READS IS OF BULK AT MOST 1048576: true; the input reads as it did. -/
def wwJustifiedUptoRow : OpenClaim := { program := "ytkoaoaogmlpocaagreatdoor", sum := "02547304f6bf7ef22ce3973a3bc9421b697c70ecde49d059990e252769018d3c", func := "yardarm/yardarmlaw18.WwJustified", spec := "wwJustified", unfollowed := true, recurses := true, named := ["yardarm/history.limits", "unicode/utf8.first", "unicode/utf8.acceptRanges", "yardarm/rules.asks"], plainKeys := false, apart := false, laid := [("unicode/utf8.acceptRanges", laid_unicode_utf8_acceptRanges), ("yardarm/history.limits", laid_yardarm_history_limits), ("yardarm/rules.asks", laid_yardarm_rules_asks), ("unicode/utf8.first", laid_unicode_utf8_first)], narrowed := true }
def WwJustifiedUptoSaid : Prop := wwJustifiedUptoRow.holds Tryz.pinned (OpenSpec.upto wwJustifiedSpec)

/-- 'yardarmlaw18.WwChains', WHERE WHAT IT READS IS OF BULK AT MOST 1048576: true; the input reads as it did. -/
def wwChainsUptoRow : OpenClaim := { program := "ytkoaoaogmlpocaagreatdoor", sum := "02547304f6bf7ef22ce3973a3bc9421b697c70ecde49d059990e252769018d3c", func := "yardarm/yardarmlaw18.WwChains", spec := "wwChains", unfollowed := true, recurses := true, named := ["yardarm/history.limits", "unicode/utf8.first", "unicode/utf8.acceptRanges", "yardarm/rules.asks"], plainKeys := false, apart := false, laid := [("unicode/utf8.acceptRanges", laid_unicode_utf8_acceptRanges), ("yardarm/history.limits", laid_yardarm_history_limits), ("yardarm/rules.asks", laid_yardarm_rules_asks), ("unicode/utf8.first", laid_unicode_utf8_first)], narrowed := true }
def WwChainsUptoSaid : Prop := wwChainsUptoRow.holds Tryz.pinned (OpenSpec.upto wwChainsSpec)

/-- 'yardarmlaw18.WwParts', WHERE WHAT IT READS IS OF BULK AT MOST 1048576: true; the input reads as it did. -/
def wwPartsUptoRow : OpenClaim := { program := "ytkoaoaogmlpocaagreatdoor", sum := "02547304f6bf7ef22ce3973a3bc9421b697c70ecde49d059990e252769018d3c", func := "yardarm/yardarmlaw18.WwParts", spec := "wwParts", unfollowed := true, recurses := true, named := ["yardarm/history.limits", "unicode/utf8.first", "unicode/utf8.acceptRanges", "yardarm/rules.asks"], plainKeys := false, apart := false, laid := [("unicode/utf8.acceptRanges", laid_unicode_utf8_acceptRanges), ("yardarm/history.limits", laid_yardarm_history_limits), ("yardarm/rules.asks", laid_yardarm_rules_asks), ("unicode/utf8.first", laid_unicode_utf8_first)], narrowed := true }
def WwPartsUptoSaid : Prop := wwPartsUptoRow.holds Tryz.pinned (OpenSpec.upto wwPartsSpec)

end Rows
end Go.Proofs.YtkoaoaogmlpocaaGreatDoor
