/-
  NARROWER THAN 'FOR EVERY INPUT', by the rows' own cells (each row's printed sentence says how): WwAll: laid · WwJustified: laid · RwAll: laid · RwOver: laid · RwScans: laid · RwJustified: laid · RwItems: laid · WrTells: laid · WrEvents: laid · WrBare: laid · WrJustifies: laid.
  DERIVED. THE GIVEN ROWS OF THIS SEAT. 11 by the template 'for every input the law returns true; each argument reads behind the call as it read before'; 0 by the template 'total and deterministic' (their statements: YtfmcbdjnmlcacaaGreatDoorTotals.lean).
  GIVEN WITH THE SEED: the statements are not yours to turn. If you find one false, say at which input.
  Laid BY PROGRAM, IN A SANDBOX (cutbox-rows.mjs): the forced cells as the released guide's own fill.sh prints them over the translation f22a4a39bc39f307… (all of the seat's roots in one cut). By AI agents, Wed Nov 11 2026. No macro, syntax, notation, axiom, sorry.
-/
import Derived.Test.YtfmcbdjnmlcacaaGreatDoorChecked
import GoSem.PinnedTables
import GoSem.Claim
import GoSem.ClaimJoined
import GoSem.ClaimMapViews
import Derived.JoinedTies
import Derived.KernelRfl
namespace Go.Proofs.YtfmcbdjnmlcacaaGreatDoor
/- THE CELL 'sum', in the pinned program and in every row, IS THE sha256 OF THE DUMP (.gsa) THAT YtfmcbdjnmlcacaaGreatDoorProg.lean LOADS. Nothing in Lean hashes anything: it is a label: what it is worth is what the hold of that sum in a sandbox is worth. -/
noncomputable def Tryz.pinned : Pinned := { name := "ytfmcbdjnmlcacaagreatdoor", sum := "f22a4a39bc39f307a1affee44f80e9a96a12bef9642fa095887b2572e4867d53", checked := Tryz.checked }
namespace Rows
def none {H : Type} : Left H := { results := [], args := [] }

/- WHAT THE LISTED PACKAGE-LEVEL VARIABLES READ AS WHEN THE CALL BEGINS. Each datum BY PROGRAM (the guide's laid-datum.mjs) off the statement by which the dump's own 'gosem.cut.vars' lays the variable. In a bare row this is a premise. The card (YtfmcbdjnmlcacaaGreatDoorCards.lean) ties it to the program's text. -/
def laid_unicode_utf8_acceptRanges {H : Type} : DataW H := .agg [.agg [.lit (.int .u8 128), .lit (.int .u8 191)], .agg [.lit (.int .u8 160), .lit (.int .u8 191)], .agg [.lit (.int .u8 128), .lit (.int .u8 159)], .agg [.lit (.int .u8 144), .lit (.int .u8 191)], .agg [.lit (.int .u8 128), .lit (.int .u8 143)], .agg [.lit (.int .u8 0), .lit (.int .u8 0)], .agg [.lit (.int .u8 0), .lit (.int .u8 0)], .agg [.lit (.int .u8 0), .lit (.int .u8 0)], .agg [.lit (.int .u8 0), .lit (.int .u8 0)], .agg [.lit (.int .u8 0), .lit (.int .u8 0)], .agg [.lit (.int .u8 0), .lit (.int .u8 0)], .agg [.lit (.int .u8 0), .lit (.int .u8 0)], .agg [.lit (.int .u8 0), .lit (.int .u8 0)], .agg [.lit (.int .u8 0), .lit (.int .u8 0)], .agg [.lit (.int .u8 0), .lit (.int .u8 0)], .agg [.lit (.int .u8 0), .lit (.int .u8 0)]]
def laid_yardarm_history_limits {H : Type} : DataW H := .agg [.lit (.int .i64 300), .lit (.int .i64 60), .lit (.int .i64 300), .lit (.int .i64 60)]
def laid_yardarm_rules_asks {H : Type} : DataW H := .iface "func table" (.agg [.nil, .iface "func" (.lit (.string [40, 42, 121, 97, 114, 100, 97, 114, 109, 47, 114, 117, 108, 101, 115, 46, 108, 111, 111, 107, 41, 46, 98, 101, 103, 105, 110])), .iface "func" (.lit (.string [40, 42, 121, 97, 114, 100, 97, 114, 109, 47, 114, 117, 108, 101, 115, 46, 108, 111, 111, 107, 41, 46, 101, 110, 100])), .iface "func" (.lit (.string [40, 42, 121, 97, 114, 100, 97, 114, 109, 47, 114, 117, 108, 101, 115, 46, 108, 111, 111, 107, 41, 46, 99, 111, 117, 110, 116])), .iface "func" (.lit (.string [40, 42, 121, 97, 114, 100, 97, 114, 109, 47, 114, 117, 108, 101, 115, 46, 108, 111, 111, 107, 41, 46, 119, 114, 105, 116, 116, 101, 110])), .iface "func" (.lit (.string [40, 42, 121, 97, 114, 100, 97, 114, 109, 47, 114, 117, 108, 101, 115, 46, 108, 111, 111, 107, 41, 46, 111, 119, 110])), .iface "func" (.lit (.string [40, 42, 121, 97, 114, 100, 97, 114, 109, 47, 114, 117, 108, 101, 115, 46, 108, 111, 111, 107, 41, 46, 115, 99, 97, 110])), .iface "func" (.lit (.string [40, 42, 121, 97, 114, 100, 97, 114, 109, 47, 114, 117, 108, 101, 115, 46, 108, 111, 111, 107, 41, 46, 111, 114, 100, 101, 114])), .iface "func" (.lit (.string [40, 42, 121, 97, 114, 100, 97, 114, 109, 47, 114, 117, 108, 101, 115, 46, 108, 111, 111, 107, 41, 46, 109, 105, 115, 115, 105, 110, 103])), .iface "func" (.lit (.string [40, 42, 121, 97, 114, 100, 97, 114, 109, 47, 114, 117, 108, 101, 115, 46, 108, 111, 111, 107, 41, 46, 109, 97, 116, 99, 104])), .iface "func" (.lit (.string [40, 42, 121, 97, 114, 100, 97, 114, 109, 47, 114, 117, 108, 101, 115, 46, 108, 111, 111, 107, 41, 46, 119, 97, 110, 116]))])
/-- One of Go's own tables, pinned by name: the form's constant. -/
def laid_unicode_utf8_first : DataW Unit := Go.Pinned.utf8First
def laid_yardarm_rw_sees {H : Type} : DataW H := .iface "func table" (.agg [.nil, .iface "func" (.lit (.string [40, 121, 97, 114, 100, 97, 114, 109, 47, 114, 119, 46, 112, 97, 115, 116, 41, 46, 110, 111, 116, 104, 105, 110, 103])), .iface "func" (.lit (.string [40, 121, 97, 114, 100, 97, 114, 109, 47, 114, 119, 46, 112, 97, 115, 116, 41, 46, 110, 111, 116, 104, 105, 110, 103])), .iface "func" (.lit (.string [40, 121, 97, 114, 100, 97, 114, 109, 47, 114, 119, 46, 112, 97, 115, 116, 41, 46, 114, 101, 97, 100])), .iface "func" (.lit (.string [40, 121, 97, 114, 100, 97, 114, 109, 47, 114, 119, 46, 112, 97, 115, 116, 41, 46, 115, 99, 97, 110])), .iface "func" (.lit (.string [40, 121, 97, 114, 100, 97, 114, 109, 47, 114, 119, 46, 112, 97, 115, 116, 41, 46, 110, 111, 116, 104, 105, 110, 103])), .iface "func" (.lit (.string [40, 121, 97, 114, 100, 97, 114, 109, 47, 114, 119, 46, 112, 97, 115, 116, 41, 46, 110, 111, 116, 104, 105, 110, 103]))])
def laid_yardarm_rw_kinds {H : Type} : DataW H := .map [(.int .i64 3, .lit (.int .i64 3)), (.int .i64 4, .lit (.int .i64 4))]

/-- 'yardarmlaw18.WwAll': WHATEVER THE INPUT: true; the input reads as it did. -/
def wwAllSpec : ChangeSpec := { name := "wwAll", fn := fun _ => fun
  | [d1, d2, d3] => { results := [.lit (.bool true)], args := [d1, d2, d3] }
  | _ => none }
def wwAllRow : OpenClaim := { program := "ytfmcbdjnmlcacaagreatdoor", sum := "f22a4a39bc39f307a1affee44f80e9a96a12bef9642fa095887b2572e4867d53", func := "yardarm/yardarmlaw18.WwAll", spec := "wwAll", unfollowed := true, recurses := true, named := ["yardarm/history.limits", "unicode/utf8.first", "unicode/utf8.acceptRanges", "yardarm/rules.asks"], plainKeys := false, apart := false, laid := [("unicode/utf8.acceptRanges", laid_unicode_utf8_acceptRanges), ("yardarm/history.limits", laid_yardarm_history_limits), ("yardarm/rules.asks", laid_yardarm_rules_asks), ("unicode/utf8.first", laid_unicode_utf8_first)] }
def WwAllSaid : Prop := wwAllRow.holds Tryz.pinned (OpenSpec.ofChange wwAllSpec)

/-- ITS FALSE NEIGHBOUR: 'it returns false'. Refute it at one input. -/
def wwAllWrong : ChangeSpec := { name := "wwAll", fn := fun _ => fun
  | [d1, d2, d3] => { results := [.lit (.bool false)], args := [d1, d2, d3] }
  | _ => none }
def WwAllWrongFalsely : Prop := wwAllRow.holds Tryz.pinned (OpenSpec.ofChange wwAllWrong)

/-- 'yardarmlaw18.WwJustified': WHATEVER THE INPUT: true; the input reads as it did. -/
def wwJustifiedSpec : ChangeSpec := { name := "wwJustified", fn := fun _ => fun
  | [d1, d2] => { results := [.lit (.bool true)], args := [d1, d2] }
  | _ => none }
def wwJustifiedRow : OpenClaim := { program := "ytfmcbdjnmlcacaagreatdoor", sum := "f22a4a39bc39f307a1affee44f80e9a96a12bef9642fa095887b2572e4867d53", func := "yardarm/yardarmlaw18.WwJustified", spec := "wwJustified", unfollowed := true, recurses := true, named := ["yardarm/history.limits", "unicode/utf8.first", "unicode/utf8.acceptRanges", "yardarm/rules.asks"], plainKeys := false, apart := false, laid := [("unicode/utf8.acceptRanges", laid_unicode_utf8_acceptRanges), ("yardarm/history.limits", laid_yardarm_history_limits), ("yardarm/rules.asks", laid_yardarm_rules_asks), ("unicode/utf8.first", laid_unicode_utf8_first)] }
def WwJustifiedSaid : Prop := wwJustifiedRow.holds Tryz.pinned (OpenSpec.ofChange wwJustifiedSpec)

/-- ITS FALSE NEIGHBOUR: 'it returns false'. Refute it at one input. -/
def wwJustifiedWrong : ChangeSpec := { name := "wwJustified", fn := fun _ => fun
  | [d1, d2] => { results := [.lit (.bool false)], args := [d1, d2] }
  | _ => none }
def WwJustifiedWrongFalsely : Prop := wwJustifiedRow.holds Tryz.pinned (OpenSpec.ofChange wwJustifiedWrong)

/-- 'yardarmlaw20.RwAll': WHATEVER THE INPUT: true; the input reads as it did. -/
def rwAllSpec : ChangeSpec := { name := "rwAll", fn := fun _ => fun
  | [d] => { results := [.lit (.bool true)], args := [d] }
  | _ => none }
def rwAllRow : OpenClaim := { program := "ytfmcbdjnmlcacaagreatdoor", sum := "f22a4a39bc39f307a1affee44f80e9a96a12bef9642fa095887b2572e4867d53", func := "yardarm/yardarmlaw20.RwAll", spec := "rwAll", unfollowed := true, recurses := true, named := ["yardarm/history.limits", "unicode/utf8.first", "unicode/utf8.acceptRanges", "yardarm/rules.asks", "yardarm/rw.sees", "yardarm/rw.kinds"], plainKeys := false, apart := false, laid := [("unicode/utf8.acceptRanges", laid_unicode_utf8_acceptRanges), ("yardarm/history.limits", laid_yardarm_history_limits), ("yardarm/rules.asks", laid_yardarm_rules_asks), ("yardarm/rw.sees", laid_yardarm_rw_sees), ("yardarm/rw.kinds", laid_yardarm_rw_kinds), ("unicode/utf8.first", laid_unicode_utf8_first)] }
def RwAllSaid : Prop := rwAllRow.holds Tryz.pinned (OpenSpec.ofChange rwAllSpec)

/-- ITS FALSE NEIGHBOUR: 'it returns false'. Refute it at one input. -/
def rwAllWrong : ChangeSpec := { name := "rwAll", fn := fun _ => fun
  | [d] => { results := [.lit (.bool false)], args := [d] }
  | _ => none }
def RwAllWrongFalsely : Prop := rwAllRow.holds Tryz.pinned (OpenSpec.ofChange rwAllWrong)

/-- 'yardarmlaw20.RwOver': WHATEVER THE INPUT: true; the input reads as it did. -/
def rwOverSpec : ChangeSpec := { name := "rwOver", fn := fun _ => fun
  | [d1, d2] => { results := [.lit (.bool true)], args := [d1, d2] }
  | _ => none }
def rwOverRow : OpenClaim := { program := "ytfmcbdjnmlcacaagreatdoor", sum := "f22a4a39bc39f307a1affee44f80e9a96a12bef9642fa095887b2572e4867d53", func := "yardarm/yardarmlaw20.RwOver", spec := "rwOver", unfollowed := true, recurses := true, named := ["yardarm/history.limits", "unicode/utf8.first", "unicode/utf8.acceptRanges", "yardarm/rules.asks", "yardarm/rw.sees", "yardarm/rw.kinds"], plainKeys := false, apart := false, laid := [("unicode/utf8.acceptRanges", laid_unicode_utf8_acceptRanges), ("yardarm/history.limits", laid_yardarm_history_limits), ("yardarm/rules.asks", laid_yardarm_rules_asks), ("yardarm/rw.sees", laid_yardarm_rw_sees), ("yardarm/rw.kinds", laid_yardarm_rw_kinds), ("unicode/utf8.first", laid_unicode_utf8_first)] }
def RwOverSaid : Prop := rwOverRow.holds Tryz.pinned (OpenSpec.ofChange rwOverSpec)

/-- ITS FALSE NEIGHBOUR: 'it returns false'. Refute it at one input. -/
def rwOverWrong : ChangeSpec := { name := "rwOver", fn := fun _ => fun
  | [d1, d2] => { results := [.lit (.bool false)], args := [d1, d2] }
  | _ => none }
def RwOverWrongFalsely : Prop := rwOverRow.holds Tryz.pinned (OpenSpec.ofChange rwOverWrong)

/-- 'yardarmlaw20.RwScans': WHATEVER THE INPUT: true; the input reads as it did. -/
def rwScansSpec : ChangeSpec := { name := "rwScans", fn := fun _ => fun
  | [d] => { results := [.lit (.bool true)], args := [d] }
  | _ => none }
def rwScansRow : OpenClaim := { program := "ytfmcbdjnmlcacaagreatdoor", sum := "f22a4a39bc39f307a1affee44f80e9a96a12bef9642fa095887b2572e4867d53", func := "yardarm/yardarmlaw20.RwScans", spec := "rwScans", unfollowed := true, recurses := true, named := ["yardarm/history.limits", "unicode/utf8.first", "unicode/utf8.acceptRanges", "yardarm/rules.asks", "yardarm/rw.sees", "yardarm/rw.kinds"], plainKeys := false, apart := false, laid := [("unicode/utf8.acceptRanges", laid_unicode_utf8_acceptRanges), ("yardarm/history.limits", laid_yardarm_history_limits), ("yardarm/rules.asks", laid_yardarm_rules_asks), ("yardarm/rw.sees", laid_yardarm_rw_sees), ("yardarm/rw.kinds", laid_yardarm_rw_kinds), ("unicode/utf8.first", laid_unicode_utf8_first)] }
def RwScansSaid : Prop := rwScansRow.holds Tryz.pinned (OpenSpec.ofChange rwScansSpec)

/-- ITS FALSE NEIGHBOUR: 'it returns false'. Refute it at one input. -/
def rwScansWrong : ChangeSpec := { name := "rwScans", fn := fun _ => fun
  | [d] => { results := [.lit (.bool false)], args := [d] }
  | _ => none }
def RwScansWrongFalsely : Prop := rwScansRow.holds Tryz.pinned (OpenSpec.ofChange rwScansWrong)

/-- 'yardarmlaw20.RwJustified': WHATEVER THE INPUT: true; the input reads as it did. -/
def rwJustifiedSpec : ChangeSpec := { name := "rwJustified", fn := fun _ => fun
  | [d1, d2] => { results := [.lit (.bool true)], args := [d1, d2] }
  | _ => none }
def rwJustifiedRow : OpenClaim := { program := "ytfmcbdjnmlcacaagreatdoor", sum := "f22a4a39bc39f307a1affee44f80e9a96a12bef9642fa095887b2572e4867d53", func := "yardarm/yardarmlaw20.RwJustified", spec := "rwJustified", unfollowed := true, recurses := true, named := ["yardarm/history.limits", "unicode/utf8.first", "unicode/utf8.acceptRanges", "yardarm/rules.asks", "yardarm/rw.sees", "yardarm/rw.kinds"], plainKeys := false, apart := false, laid := [("unicode/utf8.acceptRanges", laid_unicode_utf8_acceptRanges), ("yardarm/history.limits", laid_yardarm_history_limits), ("yardarm/rules.asks", laid_yardarm_rules_asks), ("yardarm/rw.sees", laid_yardarm_rw_sees), ("yardarm/rw.kinds", laid_yardarm_rw_kinds), ("unicode/utf8.first", laid_unicode_utf8_first)] }
def RwJustifiedSaid : Prop := rwJustifiedRow.holds Tryz.pinned (OpenSpec.ofChange rwJustifiedSpec)

/-- ITS FALSE NEIGHBOUR: 'it returns false'. Refute it at one input. -/
def rwJustifiedWrong : ChangeSpec := { name := "rwJustified", fn := fun _ => fun
  | [d1, d2] => { results := [.lit (.bool false)], args := [d1, d2] }
  | _ => none }
def RwJustifiedWrongFalsely : Prop := rwJustifiedRow.holds Tryz.pinned (OpenSpec.ofChange rwJustifiedWrong)

/-- 'yardarmlaw20.RwItems': WHATEVER THE INPUT: true; the input reads as it did. -/
def rwItemsSpec : ChangeSpec := { name := "rwItems", fn := fun _ => fun
  | [d] => { results := [.lit (.bool true)], args := [d] }
  | _ => none }
def rwItemsRow : OpenClaim := { program := "ytfmcbdjnmlcacaagreatdoor", sum := "f22a4a39bc39f307a1affee44f80e9a96a12bef9642fa095887b2572e4867d53", func := "yardarm/yardarmlaw20.RwItems", spec := "rwItems", unfollowed := true, recurses := true, named := ["yardarm/history.limits", "unicode/utf8.first", "unicode/utf8.acceptRanges", "yardarm/rules.asks", "yardarm/rw.sees", "yardarm/rw.kinds"], plainKeys := false, apart := false, laid := [("unicode/utf8.acceptRanges", laid_unicode_utf8_acceptRanges), ("yardarm/history.limits", laid_yardarm_history_limits), ("yardarm/rules.asks", laid_yardarm_rules_asks), ("yardarm/rw.sees", laid_yardarm_rw_sees), ("yardarm/rw.kinds", laid_yardarm_rw_kinds), ("unicode/utf8.first", laid_unicode_utf8_first)] }
def RwItemsSaid : Prop := rwItemsRow.holds Tryz.pinned (OpenSpec.ofChange rwItemsSpec)

/-- ITS FALSE NEIGHBOUR: 'it returns false'. Refute it at one input. -/
def rwItemsWrong : ChangeSpec := { name := "rwItems", fn := fun _ => fun
  | [d] => { results := [.lit (.bool false)], args := [d] }
  | _ => none }
def RwItemsWrongFalsely : Prop := rwItemsRow.holds Tryz.pinned (OpenSpec.ofChange rwItemsWrong)

/-- 'yardarmlaw19.WrTells': WHATEVER THE INPUT: true; the input reads as it did. -/
def wrTellsSpec : ChangeSpec := { name := "wrTells", fn := fun _ => fun
  | [d] => { results := [.lit (.bool true)], args := [d] }
  | _ => none }
def wrTellsRow : OpenClaim := { program := "ytfmcbdjnmlcacaagreatdoor", sum := "f22a4a39bc39f307a1affee44f80e9a96a12bef9642fa095887b2572e4867d53", func := "yardarm/yardarmlaw19.WrTells", spec := "wrTells", unfollowed := true, recurses := true, named := ["yardarm/history.limits", "unicode/utf8.first", "unicode/utf8.acceptRanges", "yardarm/rules.asks"], plainKeys := false, apart := false, laid := [("unicode/utf8.acceptRanges", laid_unicode_utf8_acceptRanges), ("yardarm/history.limits", laid_yardarm_history_limits), ("yardarm/rules.asks", laid_yardarm_rules_asks), ("unicode/utf8.first", laid_unicode_utf8_first)] }
def WrTellsSaid : Prop := wrTellsRow.holds Tryz.pinned (OpenSpec.ofChange wrTellsSpec)

/-- ITS FALSE NEIGHBOUR: 'it returns false'. Refute it at one input. -/
def wrTellsWrong : ChangeSpec := { name := "wrTells", fn := fun _ => fun
  | [d] => { results := [.lit (.bool false)], args := [d] }
  | _ => none }
def WrTellsWrongFalsely : Prop := wrTellsRow.holds Tryz.pinned (OpenSpec.ofChange wrTellsWrong)

/-- 'yardarmlaw19.WrEvents': WHATEVER THE INPUT: true; the input reads as it did. -/
def wrEventsSpec : ChangeSpec := { name := "wrEvents", fn := fun _ => fun
  | [d] => { results := [.lit (.bool true)], args := [d] }
  | _ => none }
def wrEventsRow : OpenClaim := { program := "ytfmcbdjnmlcacaagreatdoor", sum := "f22a4a39bc39f307a1affee44f80e9a96a12bef9642fa095887b2572e4867d53", func := "yardarm/yardarmlaw19.WrEvents", spec := "wrEvents", unfollowed := true, recurses := true, named := ["yardarm/history.limits", "unicode/utf8.first", "unicode/utf8.acceptRanges", "yardarm/rules.asks"], plainKeys := false, apart := false, laid := [("unicode/utf8.acceptRanges", laid_unicode_utf8_acceptRanges), ("yardarm/history.limits", laid_yardarm_history_limits), ("yardarm/rules.asks", laid_yardarm_rules_asks), ("unicode/utf8.first", laid_unicode_utf8_first)] }
def WrEventsSaid : Prop := wrEventsRow.holds Tryz.pinned (OpenSpec.ofChange wrEventsSpec)

/-- ITS FALSE NEIGHBOUR: 'it returns false'. Refute it at one input. -/
def wrEventsWrong : ChangeSpec := { name := "wrEvents", fn := fun _ => fun
  | [d] => { results := [.lit (.bool false)], args := [d] }
  | _ => none }
def WrEventsWrongFalsely : Prop := wrEventsRow.holds Tryz.pinned (OpenSpec.ofChange wrEventsWrong)

/-- 'yardarmlaw19.WrBare': WHATEVER THE INPUT: true; the input reads as it did. -/
def wrBareSpec : ChangeSpec := { name := "wrBare", fn := fun _ => fun
  | [d] => { results := [.lit (.bool true)], args := [d] }
  | _ => none }
def wrBareRow : OpenClaim := { program := "ytfmcbdjnmlcacaagreatdoor", sum := "f22a4a39bc39f307a1affee44f80e9a96a12bef9642fa095887b2572e4867d53", func := "yardarm/yardarmlaw19.WrBare", spec := "wrBare", unfollowed := true, recurses := true, named := ["yardarm/history.limits", "unicode/utf8.first", "unicode/utf8.acceptRanges", "yardarm/rules.asks"], plainKeys := false, apart := false, laid := [("unicode/utf8.acceptRanges", laid_unicode_utf8_acceptRanges), ("yardarm/history.limits", laid_yardarm_history_limits), ("yardarm/rules.asks", laid_yardarm_rules_asks), ("unicode/utf8.first", laid_unicode_utf8_first)] }
def WrBareSaid : Prop := wrBareRow.holds Tryz.pinned (OpenSpec.ofChange wrBareSpec)

/-- ITS FALSE NEIGHBOUR: 'it returns false'. Refute it at one input. -/
def wrBareWrong : ChangeSpec := { name := "wrBare", fn := fun _ => fun
  | [d] => { results := [.lit (.bool false)], args := [d] }
  | _ => none }
def WrBareWrongFalsely : Prop := wrBareRow.holds Tryz.pinned (OpenSpec.ofChange wrBareWrong)

/-- 'yardarmlaw19.WrJustifies': WHATEVER THE INPUT: true; the input reads as it did. -/
def wrJustifiesSpec : ChangeSpec := { name := "wrJustifies", fn := fun _ => fun
  | [d1, d2] => { results := [.lit (.bool true)], args := [d1, d2] }
  | _ => none }
def wrJustifiesRow : OpenClaim := { program := "ytfmcbdjnmlcacaagreatdoor", sum := "f22a4a39bc39f307a1affee44f80e9a96a12bef9642fa095887b2572e4867d53", func := "yardarm/yardarmlaw19.WrJustifies", spec := "wrJustifies", unfollowed := true, recurses := true, named := ["yardarm/history.limits", "unicode/utf8.first", "unicode/utf8.acceptRanges", "yardarm/rules.asks"], plainKeys := false, apart := false, laid := [("unicode/utf8.acceptRanges", laid_unicode_utf8_acceptRanges), ("yardarm/history.limits", laid_yardarm_history_limits), ("yardarm/rules.asks", laid_yardarm_rules_asks), ("unicode/utf8.first", laid_unicode_utf8_first)] }
def WrJustifiesSaid : Prop := wrJustifiesRow.holds Tryz.pinned (OpenSpec.ofChange wrJustifiesSpec)

/-- ITS FALSE NEIGHBOUR: 'it returns false'. Refute it at one input. -/
def wrJustifiesWrong : ChangeSpec := { name := "wrJustifies", fn := fun _ => fun
  | [d1, d2] => { results := [.lit (.bool false)], args := [d1, d2] }
  | _ => none }
def WrJustifiesWrongFalsely : Prop := wrJustifiesRow.holds Tryz.pinned (OpenSpec.ofChange wrJustifiesWrong)

/- THE SECOND FORM. 'bulk': how many values and letters a reading holds, each counted each time it is reached (what is shared counts as often as it is met; a slice's spare places count too). A statement '..UptoSaid' is the law's where the arguments, and the package variables that the reading takes, are together of bulk at most 1048576: NARROWER than '..Said'. Prove '..Said' where nothing that the law and all that it calls make is longer than what came in: it says more and counts as full. Else prove '..UptoSaid'. A law counts once. -/
mutual
def uptoBulk {H : Type} : DataW H → Nat
  | .lit (.string bytes) => bytes.length + 1
  | .lit _ => 1
  | .nil => 1
  | .ptr d => uptoBulk d + 1
  | .slice elems spare => uptoBulkAll elems + uptoBulkAll spare + 1
  | .agg parts => uptoBulkAll parts + 1
  | .iface _ d => uptoBulk d + 1
  | .map entries => uptoBulkEntries entries + 1
  | .held _ => 1
def uptoBulkAll {H : Type} : List (DataW H) → Nat
  | [] => 0
  | d :: r => uptoBulk d + uptoBulkAll r
def uptoBulkEntries {H : Type} : List (Lit × DataW H) → Nat
  | [] => 0
  | x :: r => uptoBulkEntry x + uptoBulkEntries r
def uptoBulkEntry {H : Type} : Lit × DataW H → Nat
  | (.string bytes, d) => bytes.length + uptoBulk d + 1
  | (_, d) => uptoBulk d + 1
 end
def uptoSmall : (H : Type) → List (DataW H) → Bool := fun _ ds => decide (uptoBulkAll ds ≤ 1048576)
def OpenSpec.upto (s : _root_.Go.ChangeSpec) : _root_.Go.OpenSpec := { _root_.Go.OpenSpec.ofChange s with cond := some uptoSmall }

/-- 'yardarmlaw18.WwAll', WHERE WHAT IT READS IS OF BULK AT MOST 1048576: true; the input reads as it did. -/
def wwAllUptoRow : OpenClaim := { program := "ytfmcbdjnmlcacaagreatdoor", sum := "f22a4a39bc39f307a1affee44f80e9a96a12bef9642fa095887b2572e4867d53", func := "yardarm/yardarmlaw18.WwAll", spec := "wwAll", unfollowed := true, recurses := true, named := ["yardarm/history.limits", "unicode/utf8.first", "unicode/utf8.acceptRanges", "yardarm/rules.asks"], plainKeys := false, apart := false, laid := [("unicode/utf8.acceptRanges", laid_unicode_utf8_acceptRanges), ("yardarm/history.limits", laid_yardarm_history_limits), ("yardarm/rules.asks", laid_yardarm_rules_asks), ("unicode/utf8.first", laid_unicode_utf8_first)], narrowed := true }
def WwAllUptoSaid : Prop := wwAllUptoRow.holds Tryz.pinned (OpenSpec.upto wwAllSpec)

/-- 'yardarmlaw18.WwJustified', WHERE WHAT IT READS IS OF BULK AT MOST 1048576: true; the input reads as it did. -/
def wwJustifiedUptoRow : OpenClaim := { program := "ytfmcbdjnmlcacaagreatdoor", sum := "f22a4a39bc39f307a1affee44f80e9a96a12bef9642fa095887b2572e4867d53", func := "yardarm/yardarmlaw18.WwJustified", spec := "wwJustified", unfollowed := true, recurses := true, named := ["yardarm/history.limits", "unicode/utf8.first", "unicode/utf8.acceptRanges", "yardarm/rules.asks"], plainKeys := false, apart := false, laid := [("unicode/utf8.acceptRanges", laid_unicode_utf8_acceptRanges), ("yardarm/history.limits", laid_yardarm_history_limits), ("yardarm/rules.asks", laid_yardarm_rules_asks), ("unicode/utf8.first", laid_unicode_utf8_first)], narrowed := true }
def WwJustifiedUptoSaid : Prop := wwJustifiedUptoRow.holds Tryz.pinned (OpenSpec.upto wwJustifiedSpec)

/-- 'yardarmlaw20.RwAll', WHERE WHAT IT READS IS OF BULK AT MOST 1048576: true; the input reads as it did. -/
def rwAllUptoRow : OpenClaim := { program := "ytfmcbdjnmlcacaagreatdoor", sum := "f22a4a39bc39f307a1affee44f80e9a96a12bef9642fa095887b2572e4867d53", func := "yardarm/yardarmlaw20.RwAll", spec := "rwAll", unfollowed := true, recurses := true, named := ["yardarm/history.limits", "unicode/utf8.first", "unicode/utf8.acceptRanges", "yardarm/rules.asks", "yardarm/rw.sees", "yardarm/rw.kinds"], plainKeys := false, apart := false, laid := [("unicode/utf8.acceptRanges", laid_unicode_utf8_acceptRanges), ("yardarm/history.limits", laid_yardarm_history_limits), ("yardarm/rules.asks", laid_yardarm_rules_asks), ("yardarm/rw.sees", laid_yardarm_rw_sees), ("yardarm/rw.kinds", laid_yardarm_rw_kinds), ("unicode/utf8.first", laid_unicode_utf8_first)], narrowed := true }
def RwAllUptoSaid : Prop := rwAllUptoRow.holds Tryz.pinned (OpenSpec.upto rwAllSpec)

/-- 'yardarmlaw20.RwOver', WHERE WHAT IT READS IS OF BULK AT MOST 1048576: true; the input reads as it did. -/
def rwOverUptoRow : OpenClaim := { program := "ytfmcbdjnmlcacaagreatdoor", sum := "f22a4a39bc39f307a1affee44f80e9a96a12bef9642fa095887b2572e4867d53", func := "yardarm/yardarmlaw20.RwOver", spec := "rwOver", unfollowed := true, recurses := true, named := ["yardarm/history.limits", "unicode/utf8.first", "unicode/utf8.acceptRanges", "yardarm/rules.asks", "yardarm/rw.sees", "yardarm/rw.kinds"], plainKeys := false, apart := false, laid := [("unicode/utf8.acceptRanges", laid_unicode_utf8_acceptRanges), ("yardarm/history.limits", laid_yardarm_history_limits), ("yardarm/rules.asks", laid_yardarm_rules_asks), ("yardarm/rw.sees", laid_yardarm_rw_sees), ("yardarm/rw.kinds", laid_yardarm_rw_kinds), ("unicode/utf8.first", laid_unicode_utf8_first)], narrowed := true }
def RwOverUptoSaid : Prop := rwOverUptoRow.holds Tryz.pinned (OpenSpec.upto rwOverSpec)

/-- 'yardarmlaw20.RwScans', WHERE WHAT IT READS IS OF BULK AT MOST 1048576: true; the input reads as it did. -/
def rwScansUptoRow : OpenClaim := { program := "ytfmcbdjnmlcacaagreatdoor", sum := "f22a4a39bc39f307a1affee44f80e9a96a12bef9642fa095887b2572e4867d53", func := "yardarm/yardarmlaw20.RwScans", spec := "rwScans", unfollowed := true, recurses := true, named := ["yardarm/history.limits", "unicode/utf8.first", "unicode/utf8.acceptRanges", "yardarm/rules.asks", "yardarm/rw.sees", "yardarm/rw.kinds"], plainKeys := false, apart := false, laid := [("unicode/utf8.acceptRanges", laid_unicode_utf8_acceptRanges), ("yardarm/history.limits", laid_yardarm_history_limits), ("yardarm/rules.asks", laid_yardarm_rules_asks), ("yardarm/rw.sees", laid_yardarm_rw_sees), ("yardarm/rw.kinds", laid_yardarm_rw_kinds), ("unicode/utf8.first", laid_unicode_utf8_first)], narrowed := true }
def RwScansUptoSaid : Prop := rwScansUptoRow.holds Tryz.pinned (OpenSpec.upto rwScansSpec)

/-- 'yardarmlaw20.RwJustified', WHERE WHAT IT READS IS OF BULK AT MOST 1048576: true; the input reads as it did. -/
def rwJustifiedUptoRow : OpenClaim := { program := "ytfmcbdjnmlcacaagreatdoor", sum := "f22a4a39bc39f307a1affee44f80e9a96a12bef9642fa095887b2572e4867d53", func := "yardarm/yardarmlaw20.RwJustified", spec := "rwJustified", unfollowed := true, recurses := true, named := ["yardarm/history.limits", "unicode/utf8.first", "unicode/utf8.acceptRanges", "yardarm/rules.asks", "yardarm/rw.sees", "yardarm/rw.kinds"], plainKeys := false, apart := false, laid := [("unicode/utf8.acceptRanges", laid_unicode_utf8_acceptRanges), ("yardarm/history.limits", laid_yardarm_history_limits), ("yardarm/rules.asks", laid_yardarm_rules_asks), ("yardarm/rw.sees", laid_yardarm_rw_sees), ("yardarm/rw.kinds", laid_yardarm_rw_kinds), ("unicode/utf8.first", laid_unicode_utf8_first)], narrowed := true }
def RwJustifiedUptoSaid : Prop := rwJustifiedUptoRow.holds Tryz.pinned (OpenSpec.upto rwJustifiedSpec)

/-- 'yardarmlaw20.RwItems', WHERE WHAT IT READS IS OF BULK AT MOST 1048576: true; the input reads as it did. -/
def rwItemsUptoRow : OpenClaim := { program := "ytfmcbdjnmlcacaagreatdoor", sum := "f22a4a39bc39f307a1affee44f80e9a96a12bef9642fa095887b2572e4867d53", func := "yardarm/yardarmlaw20.RwItems", spec := "rwItems", unfollowed := true, recurses := true, named := ["yardarm/history.limits", "unicode/utf8.first", "unicode/utf8.acceptRanges", "yardarm/rules.asks", "yardarm/rw.sees", "yardarm/rw.kinds"], plainKeys := false, apart := false, laid := [("unicode/utf8.acceptRanges", laid_unicode_utf8_acceptRanges), ("yardarm/history.limits", laid_yardarm_history_limits), ("yardarm/rules.asks", laid_yardarm_rules_asks), ("yardarm/rw.sees", laid_yardarm_rw_sees), ("yardarm/rw.kinds", laid_yardarm_rw_kinds), ("unicode/utf8.first", laid_unicode_utf8_first)], narrowed := true }
def RwItemsUptoSaid : Prop := rwItemsUptoRow.holds Tryz.pinned (OpenSpec.upto rwItemsSpec)

/-- 'yardarmlaw19.WrTells', WHERE WHAT IT READS IS OF BULK AT MOST 1048576: true; the input reads as it did. -/
def wrTellsUptoRow : OpenClaim := { program := "ytfmcbdjnmlcacaagreatdoor", sum := "f22a4a39bc39f307a1affee44f80e9a96a12bef9642fa095887b2572e4867d53", func := "yardarm/yardarmlaw19.WrTells", spec := "wrTells", unfollowed := true, recurses := true, named := ["yardarm/history.limits", "unicode/utf8.first", "unicode/utf8.acceptRanges", "yardarm/rules.asks"], plainKeys := false, apart := false, laid := [("unicode/utf8.acceptRanges", laid_unicode_utf8_acceptRanges), ("yardarm/history.limits", laid_yardarm_history_limits), ("yardarm/rules.asks", laid_yardarm_rules_asks), ("unicode/utf8.first", laid_unicode_utf8_first)], narrowed := true }
def WrTellsUptoSaid : Prop := wrTellsUptoRow.holds Tryz.pinned (OpenSpec.upto wrTellsSpec)

/-- 'yardarmlaw19.WrEvents', WHERE WHAT IT READS IS OF BULK AT MOST 1048576: true; the input reads as it did. -/
def wrEventsUptoRow : OpenClaim := { program := "ytfmcbdjnmlcacaagreatdoor", sum := "f22a4a39bc39f307a1affee44f80e9a96a12bef9642fa095887b2572e4867d53", func := "yardarm/yardarmlaw19.WrEvents", spec := "wrEvents", unfollowed := true, recurses := true, named := ["yardarm/history.limits", "unicode/utf8.first", "unicode/utf8.acceptRanges", "yardarm/rules.asks"], plainKeys := false, apart := false, laid := [("unicode/utf8.acceptRanges", laid_unicode_utf8_acceptRanges), ("yardarm/history.limits", laid_yardarm_history_limits), ("yardarm/rules.asks", laid_yardarm_rules_asks), ("unicode/utf8.first", laid_unicode_utf8_first)], narrowed := true }
def WrEventsUptoSaid : Prop := wrEventsUptoRow.holds Tryz.pinned (OpenSpec.upto wrEventsSpec)

/-- 'yardarmlaw19.WrBare', WHERE WHAT IT READS IS OF BULK AT MOST 1048576: true; the input reads as it did. -/
def wrBareUptoRow : OpenClaim := { program := "ytfmcbdjnmlcacaagreatdoor", sum := "f22a4a39bc39f307a1affee44f80e9a96a12bef9642fa095887b2572e4867d53", func := "yardarm/yardarmlaw19.WrBare", spec := "wrBare", unfollowed := true, recurses := true, named := ["yardarm/history.limits", "unicode/utf8.first", "unicode/utf8.acceptRanges", "yardarm/rules.asks"], plainKeys := false, apart := false, laid := [("unicode/utf8.acceptRanges", laid_unicode_utf8_acceptRanges), ("yardarm/history.limits", laid_yardarm_history_limits), ("yardarm/rules.asks", laid_yardarm_rules_asks), ("unicode/utf8.first", laid_unicode_utf8_first)], narrowed := true }
def WrBareUptoSaid : Prop := wrBareUptoRow.holds Tryz.pinned (OpenSpec.upto wrBareSpec)

/-- 'yardarmlaw19.WrJustifies', WHERE WHAT IT READS IS OF BULK AT MOST 1048576: true; the input reads as it did. -/
def wrJustifiesUptoRow : OpenClaim := { program := "ytfmcbdjnmlcacaagreatdoor", sum := "f22a4a39bc39f307a1affee44f80e9a96a12bef9642fa095887b2572e4867d53", func := "yardarm/yardarmlaw19.WrJustifies", spec := "wrJustifies", unfollowed := true, recurses := true, named := ["yardarm/history.limits", "unicode/utf8.first", "unicode/utf8.acceptRanges", "yardarm/rules.asks"], plainKeys := false, apart := false, laid := [("unicode/utf8.acceptRanges", laid_unicode_utf8_acceptRanges), ("yardarm/history.limits", laid_yardarm_history_limits), ("yardarm/rules.asks", laid_yardarm_rules_asks), ("unicode/utf8.first", laid_unicode_utf8_first)], narrowed := true }
def WrJustifiesUptoSaid : Prop := wrJustifiesUptoRow.holds Tryz.pinned (OpenSpec.upto wrJustifiesSpec)

end Rows
end Go.Proofs.YtfmcbdjnmlcacaaGreatDoor
