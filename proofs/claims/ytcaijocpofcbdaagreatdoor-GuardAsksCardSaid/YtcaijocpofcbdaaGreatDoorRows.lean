/-
  NARROWER THAN 'FOR EVERY INPUT', by the rows' own cells (each row's printed sentence says how): SessionFirst: laid · SessionAsked: laid · SessionHas: laid · SessionShows: laid · GuardTells: laid · GuardAsks: laid · GuardGreatest: laid · GuardRight: laid · GuardBack: laid.
  DERIVED. THE GIVEN ROWS OF THIS SEAT. 9 by the template 'for every input the law returns true; each argument reads behind the call as it read before'; 0 by the template 'total and deterministic' (their statements: YtcaijocpofcbdaaGreatDoorTotals.lean).
  GIVEN WITH THE SEED: the statements are not yours to turn. If you find one false, say at which input.
  Laid BY PROGRAM, IN A SANDBOX (cutbox-rows.mjs): the forced cells as the released guide's own fill.sh prints them over the translation 99e2b10a7dd0ab6c… (all of the seat's roots in one cut). By AI agents, Wed Nov 11 2026. No macro, syntax, notation, axiom, sorry.
-/
import Derived.Test.YtcaijocpofcbdaaGreatDoorChecked
import GoSem.PinnedTables
import GoSem.Claim
import GoSem.ClaimJoined
import GoSem.ClaimMapViews
import Derived.JoinedTies
import Derived.KernelRfl
namespace Go.Proofs.YtcaijocpofcbdaaGreatDoor
/- THE CELL 'sum', in the pinned program and in every row, IS THE sha256 OF THE DUMP (.gsa) THAT YtcaijocpofcbdaaGreatDoorProg.lean LOADS. Nothing in Lean hashes anything: it is a label: what it is worth is what the hold of that sum in a sandbox is worth. -/
noncomputable def Tryz.pinned : Pinned := { name := "ytcaijocpofcbdaagreatdoor", sum := "99e2b10a7dd0ab6ca00d8a66475fa374610278294920d75677a92c0c7a5ef52b", checked := Tryz.checked }
namespace Rows
def none {H : Type} : Left H := { results := [], args := [] }

/- WHAT THE LISTED PACKAGE-LEVEL VARIABLES READ AS WHEN THE CALL BEGINS. Each datum BY PROGRAM (the guide's laid-datum.mjs) off the statement by which the dump's own 'gosem.cut.vars' lays the variable. In a bare row this is a premise. The card (YtcaijocpofcbdaaGreatDoorCards.lean) ties it to the program's text. -/
def laid_unicode_utf8_acceptRanges {H : Type} : DataW H := .agg [.agg [.lit (.int .u8 128), .lit (.int .u8 191)], .agg [.lit (.int .u8 160), .lit (.int .u8 191)], .agg [.lit (.int .u8 128), .lit (.int .u8 159)], .agg [.lit (.int .u8 144), .lit (.int .u8 191)], .agg [.lit (.int .u8 128), .lit (.int .u8 143)], .agg [.lit (.int .u8 0), .lit (.int .u8 0)], .agg [.lit (.int .u8 0), .lit (.int .u8 0)], .agg [.lit (.int .u8 0), .lit (.int .u8 0)], .agg [.lit (.int .u8 0), .lit (.int .u8 0)], .agg [.lit (.int .u8 0), .lit (.int .u8 0)], .agg [.lit (.int .u8 0), .lit (.int .u8 0)], .agg [.lit (.int .u8 0), .lit (.int .u8 0)], .agg [.lit (.int .u8 0), .lit (.int .u8 0)], .agg [.lit (.int .u8 0), .lit (.int .u8 0)], .agg [.lit (.int .u8 0), .lit (.int .u8 0)], .agg [.lit (.int .u8 0), .lit (.int .u8 0)]]
def laid_yardarm_history_limits {H : Type} : DataW H := .agg [.lit (.int .i64 300), .lit (.int .i64 60), .lit (.int .i64 300), .lit (.int .i64 60)]
def laid_yardarm_rules_asks {H : Type} : DataW H := .iface "func table" (.agg [.nil, .iface "func" (.lit (.string [40, 42, 121, 97, 114, 100, 97, 114, 109, 47, 114, 117, 108, 101, 115, 46, 108, 111, 111, 107, 41, 46, 98, 101, 103, 105, 110])), .iface "func" (.lit (.string [40, 42, 121, 97, 114, 100, 97, 114, 109, 47, 114, 117, 108, 101, 115, 46, 108, 111, 111, 107, 41, 46, 101, 110, 100])), .iface "func" (.lit (.string [40, 42, 121, 97, 114, 100, 97, 114, 109, 47, 114, 117, 108, 101, 115, 46, 108, 111, 111, 107, 41, 46, 99, 111, 117, 110, 116])), .iface "func" (.lit (.string [40, 42, 121, 97, 114, 100, 97, 114, 109, 47, 114, 117, 108, 101, 115, 46, 108, 111, 111, 107, 41, 46, 119, 114, 105, 116, 116, 101, 110])), .iface "func" (.lit (.string [40, 42, 121, 97, 114, 100, 97, 114, 109, 47, 114, 117, 108, 101, 115, 46, 108, 111, 111, 107, 41, 46, 111, 119, 110])), .iface "func" (.lit (.string [40, 42, 121, 97, 114, 100, 97, 114, 109, 47, 114, 117, 108, 101, 115, 46, 108, 111, 111, 107, 41, 46, 115, 99, 97, 110])), .iface "func" (.lit (.string [40, 42, 121, 97, 114, 100, 97, 114, 109, 47, 114, 117, 108, 101, 115, 46, 108, 111, 111, 107, 41, 46, 111, 114, 100, 101, 114])), .iface "func" (.lit (.string [40, 42, 121, 97, 114, 100, 97, 114, 109, 47, 114, 117, 108, 101, 115, 46, 108, 111, 111, 107, 41, 46, 109, 105, 115, 115, 105, 110, 103])), .iface "func" (.lit (.string [40, 42, 121, 97, 114, 100, 97, 114, 109, 47, 114, 117, 108, 101, 115, 46, 108, 111, 111, 107, 41, 46, 109, 97, 116, 99, 104])), .iface "func" (.lit (.string [40, 42, 121, 97, 114, 100, 97, 114, 109, 47, 114, 117, 108, 101, 115, 46, 108, 111, 111, 107, 41, 46, 119, 97, 110, 116]))])
def laid_yardarm_session_guards {H : Type} : DataW H := .iface "func table" (.agg [.agg [.lit (.int .i64 1), .iface "func" (.lit (.string [40, 121, 97, 114, 100, 97, 114, 109, 47, 115, 101, 115, 115, 105, 111, 110, 46, 100, 111, 105, 110, 103, 115, 41, 46, 105, 110, 115, 116, 97, 108, 108])), .iface "func" (.lit (.string [40, 121, 97, 114, 100, 97, 114, 109, 47, 115, 101, 115, 115, 105, 111, 110, 46, 100, 111, 105, 110, 103, 115, 41, 46, 114, 101, 97, 100]))], .agg [.lit (.int .i64 2), .iface "func" (.lit (.string [40, 121, 97, 114, 100, 97, 114, 109, 47, 115, 101, 115, 115, 105, 111, 110, 46, 100, 111, 105, 110, 103, 115, 41, 46, 114, 101, 97, 100])), .iface "func" (.lit (.string [40, 121, 97, 114, 100, 97, 114, 109, 47, 115, 101, 115, 115, 105, 111, 110, 46, 100, 111, 105, 110, 103, 115, 41, 46, 114, 101, 97, 100]))], .agg [.lit (.int .i64 4), .iface "func" (.lit (.string [40, 121, 97, 114, 100, 97, 114, 109, 47, 115, 101, 115, 115, 105, 111, 110, 46, 100, 111, 105, 110, 103, 115, 41, 46, 105, 110, 115, 116, 97, 108, 108])), .iface "func" (.lit (.string [40, 121, 97, 114, 100, 97, 114, 109, 47, 115, 101, 115, 115, 105, 111, 110, 46, 100, 111, 105, 110, 103, 115, 41, 46, 105, 110, 115, 116, 97, 108, 108]))], .agg [.lit (.int .i64 8), .iface "func" (.lit (.string [40, 121, 97, 114, 100, 97, 114, 109, 47, 115, 101, 115, 115, 105, 111, 110, 46, 100, 111, 105, 110, 103, 115, 41, 46, 114, 101, 97, 100])), .iface "func" (.lit (.string [40, 121, 97, 114, 100, 97, 114, 109, 47, 115, 101, 115, 115, 105, 111, 110, 46, 100, 111, 105, 110, 103, 115, 41, 46, 105, 110, 115, 116, 97, 108, 108]))]])
/-- One of Go's own tables, pinned by name: the form's constant. -/
def laid_unicode_utf8_first : DataW Unit := Go.Pinned.utf8First
def laid_yardarm_level_words {H : Type} : DataW H := .agg [.lit (.string [114, 121, 119]), .lit (.string [109, 114]), .lit (.string [109, 119]), .lit (.string [119, 102, 114])]

/-- 'yardarmlaw26.SessionFirst': WHATEVER THE INPUT: true; the input reads as it did. -/
def sessionFirstSpec : ChangeSpec := { name := "sessionFirst", fn := fun _ => fun
  | [d1, d2] => { results := [.lit (.bool true)], args := [d1, d2] }
  | _ => none }
def sessionFirstRow : OpenClaim := { program := "ytcaijocpofcbdaagreatdoor", sum := "99e2b10a7dd0ab6ca00d8a66475fa374610278294920d75677a92c0c7a5ef52b", func := "yardarm/yardarmlaw26.SessionFirst", spec := "sessionFirst", unfollowed := true, recurses := true, named := ["yardarm/session.guards", "yardarm/history.limits", "unicode/utf8.first", "unicode/utf8.acceptRanges", "yardarm/rules.asks"], plainKeys := false, apart := false, laid := [("unicode/utf8.acceptRanges", laid_unicode_utf8_acceptRanges), ("yardarm/history.limits", laid_yardarm_history_limits), ("yardarm/rules.asks", laid_yardarm_rules_asks), ("yardarm/session.guards", laid_yardarm_session_guards), ("unicode/utf8.first", laid_unicode_utf8_first)] }
def SessionFirstSaid : Prop := sessionFirstRow.holds Tryz.pinned (OpenSpec.ofChange sessionFirstSpec)

/-- ITS FALSE NEIGHBOUR: 'it returns false'. Refute it at one input. -/
def sessionFirstWrong : ChangeSpec := { name := "sessionFirst", fn := fun _ => fun
  | [d1, d2] => { results := [.lit (.bool false)], args := [d1, d2] }
  | _ => none }
def SessionFirstWrongFalsely : Prop := sessionFirstRow.holds Tryz.pinned (OpenSpec.ofChange sessionFirstWrong)

/-- 'yardarmlaw26.SessionAsked': WHATEVER THE INPUT: true; the input reads as it did. -/
def sessionAskedSpec : ChangeSpec := { name := "sessionAsked", fn := fun _ => fun
  | [d1, d2] => { results := [.lit (.bool true)], args := [d1, d2] }
  | _ => none }
def sessionAskedRow : OpenClaim := { program := "ytcaijocpofcbdaagreatdoor", sum := "99e2b10a7dd0ab6ca00d8a66475fa374610278294920d75677a92c0c7a5ef52b", func := "yardarm/yardarmlaw26.SessionAsked", spec := "sessionAsked", unfollowed := true, recurses := true, named := ["yardarm/session.guards", "yardarm/history.limits", "unicode/utf8.first", "unicode/utf8.acceptRanges", "yardarm/rules.asks"], plainKeys := false, apart := false, laid := [("unicode/utf8.acceptRanges", laid_unicode_utf8_acceptRanges), ("yardarm/history.limits", laid_yardarm_history_limits), ("yardarm/rules.asks", laid_yardarm_rules_asks), ("yardarm/session.guards", laid_yardarm_session_guards), ("unicode/utf8.first", laid_unicode_utf8_first)] }
def SessionAskedSaid : Prop := sessionAskedRow.holds Tryz.pinned (OpenSpec.ofChange sessionAskedSpec)

/-- ITS FALSE NEIGHBOUR: 'it returns false'. Refute it at one input. -/
def sessionAskedWrong : ChangeSpec := { name := "sessionAsked", fn := fun _ => fun
  | [d1, d2] => { results := [.lit (.bool false)], args := [d1, d2] }
  | _ => none }
def SessionAskedWrongFalsely : Prop := sessionAskedRow.holds Tryz.pinned (OpenSpec.ofChange sessionAskedWrong)

/-- 'yardarmlaw26.SessionHas': WHATEVER THE INPUT: true; the input reads as it did. -/
def sessionHasSpec : ChangeSpec := { name := "sessionHas", fn := fun _ => fun
  | [d1, d2, d3] => { results := [.lit (.bool true)], args := [d1, d2, d3] }
  | _ => none }
def sessionHasRow : OpenClaim := { program := "ytcaijocpofcbdaagreatdoor", sum := "99e2b10a7dd0ab6ca00d8a66475fa374610278294920d75677a92c0c7a5ef52b", func := "yardarm/yardarmlaw26.SessionHas", spec := "sessionHas", unfollowed := true, recurses := true, named := ["yardarm/session.guards", "yardarm/history.limits", "unicode/utf8.first", "unicode/utf8.acceptRanges", "yardarm/rules.asks"], plainKeys := false, apart := false, laid := [("unicode/utf8.acceptRanges", laid_unicode_utf8_acceptRanges), ("yardarm/history.limits", laid_yardarm_history_limits), ("yardarm/rules.asks", laid_yardarm_rules_asks), ("yardarm/session.guards", laid_yardarm_session_guards), ("unicode/utf8.first", laid_unicode_utf8_first)] }
def SessionHasSaid : Prop := sessionHasRow.holds Tryz.pinned (OpenSpec.ofChange sessionHasSpec)

/-- ITS FALSE NEIGHBOUR: 'it returns false'. Refute it at one input. -/
def sessionHasWrong : ChangeSpec := { name := "sessionHas", fn := fun _ => fun
  | [d1, d2, d3] => { results := [.lit (.bool false)], args := [d1, d2, d3] }
  | _ => none }
def SessionHasWrongFalsely : Prop := sessionHasRow.holds Tryz.pinned (OpenSpec.ofChange sessionHasWrong)

/-- 'yardarmlaw26.SessionShows': WHATEVER THE INPUT: true; the input reads as it did. -/
def sessionShowsSpec : ChangeSpec := { name := "sessionShows", fn := fun _ => fun
  | [d] => { results := [.lit (.bool true)], args := [d] }
  | _ => none }
def sessionShowsRow : OpenClaim := { program := "ytcaijocpofcbdaagreatdoor", sum := "99e2b10a7dd0ab6ca00d8a66475fa374610278294920d75677a92c0c7a5ef52b", func := "yardarm/yardarmlaw26.SessionShows", spec := "sessionShows", unfollowed := true, recurses := true, named := ["yardarm/session.guards", "yardarm/history.limits", "unicode/utf8.first", "unicode/utf8.acceptRanges", "yardarm/rules.asks"], plainKeys := false, apart := false, laid := [("unicode/utf8.acceptRanges", laid_unicode_utf8_acceptRanges), ("yardarm/history.limits", laid_yardarm_history_limits), ("yardarm/rules.asks", laid_yardarm_rules_asks), ("yardarm/session.guards", laid_yardarm_session_guards), ("unicode/utf8.first", laid_unicode_utf8_first)] }
def SessionShowsSaid : Prop := sessionShowsRow.holds Tryz.pinned (OpenSpec.ofChange sessionShowsSpec)

/-- ITS FALSE NEIGHBOUR: 'it returns false'. Refute it at one input. -/
def sessionShowsWrong : ChangeSpec := { name := "sessionShows", fn := fun _ => fun
  | [d] => { results := [.lit (.bool false)], args := [d] }
  | _ => none }
def SessionShowsWrongFalsely : Prop := sessionShowsRow.holds Tryz.pinned (OpenSpec.ofChange sessionShowsWrong)

/-- 'yardarmlaw27.GuardTells': WHATEVER THE INPUT: true; the input reads as it did. -/
def guardTellsSpec : ChangeSpec := { name := "guardTells", fn := fun _ => fun
  | [d] => { results := [.lit (.bool true)], args := [d] }
  | _ => none }
def guardTellsRow : OpenClaim := { program := "ytcaijocpofcbdaagreatdoor", sum := "99e2b10a7dd0ab6ca00d8a66475fa374610278294920d75677a92c0c7a5ef52b", func := "yardarm/yardarmlaw27.GuardTells", spec := "guardTells", inPlace := ["internal/abi.NoEscape", "internal/bytealg.MakeNoZero"], unfollowed := true, recurses := true, named := ["yardarm/history.limits", "unicode/utf8.first", "unicode/utf8.acceptRanges", "yardarm/rules.asks", "yardarm/session.guards", "yardarm/level.words"], plainKeys := false, apart := false, laid := [("unicode/utf8.acceptRanges", laid_unicode_utf8_acceptRanges), ("yardarm/level.words", laid_yardarm_level_words), ("yardarm/history.limits", laid_yardarm_history_limits), ("yardarm/rules.asks", laid_yardarm_rules_asks), ("yardarm/session.guards", laid_yardarm_session_guards), ("unicode/utf8.first", laid_unicode_utf8_first)] }
def GuardTellsSaid : Prop := guardTellsRow.holds Tryz.pinned (OpenSpec.ofChange guardTellsSpec)

/-- ITS FALSE NEIGHBOUR: 'it returns false'. Refute it at one input. -/
def guardTellsWrong : ChangeSpec := { name := "guardTells", fn := fun _ => fun
  | [d] => { results := [.lit (.bool false)], args := [d] }
  | _ => none }
def GuardTellsWrongFalsely : Prop := guardTellsRow.holds Tryz.pinned (OpenSpec.ofChange guardTellsWrong)

/-- 'yardarmlaw27.GuardAsks': WHATEVER THE INPUT: true; the input reads as it did. -/
def guardAsksSpec : ChangeSpec := { name := "guardAsks", fn := fun _ => fun
  | [d1, d2, d3] => { results := [.lit (.bool true)], args := [d1, d2, d3] }
  | _ => none }
def guardAsksRow : OpenClaim := { program := "ytcaijocpofcbdaagreatdoor", sum := "99e2b10a7dd0ab6ca00d8a66475fa374610278294920d75677a92c0c7a5ef52b", func := "yardarm/yardarmlaw27.GuardAsks", spec := "guardAsks", inPlace := ["internal/abi.NoEscape", "internal/bytealg.MakeNoZero"], unfollowed := true, recurses := true, named := ["yardarm/history.limits", "unicode/utf8.first", "unicode/utf8.acceptRanges", "yardarm/rules.asks", "yardarm/session.guards", "yardarm/level.words"], plainKeys := false, apart := false, laid := [("unicode/utf8.acceptRanges", laid_unicode_utf8_acceptRanges), ("yardarm/level.words", laid_yardarm_level_words), ("yardarm/history.limits", laid_yardarm_history_limits), ("yardarm/rules.asks", laid_yardarm_rules_asks), ("yardarm/session.guards", laid_yardarm_session_guards), ("unicode/utf8.first", laid_unicode_utf8_first)] }
def GuardAsksSaid : Prop := guardAsksRow.holds Tryz.pinned (OpenSpec.ofChange guardAsksSpec)

/-- ITS FALSE NEIGHBOUR: 'it returns false'. Refute it at one input. -/
def guardAsksWrong : ChangeSpec := { name := "guardAsks", fn := fun _ => fun
  | [d1, d2, d3] => { results := [.lit (.bool false)], args := [d1, d2, d3] }
  | _ => none }
def GuardAsksWrongFalsely : Prop := guardAsksRow.holds Tryz.pinned (OpenSpec.ofChange guardAsksWrong)

/-- 'yardarmlaw27.GuardGreatest': WHATEVER THE INPUT: true; the input reads as it did. -/
def guardGreatestSpec : ChangeSpec := { name := "guardGreatest", fn := fun _ => fun
  | [d1, d2] => { results := [.lit (.bool true)], args := [d1, d2] }
  | _ => none }
def guardGreatestRow : OpenClaim := { program := "ytcaijocpofcbdaagreatdoor", sum := "99e2b10a7dd0ab6ca00d8a66475fa374610278294920d75677a92c0c7a5ef52b", func := "yardarm/yardarmlaw27.GuardGreatest", spec := "guardGreatest", inPlace := ["internal/abi.NoEscape", "internal/bytealg.MakeNoZero"], unfollowed := true, recurses := true, named := ["yardarm/history.limits", "unicode/utf8.first", "unicode/utf8.acceptRanges", "yardarm/rules.asks", "yardarm/session.guards", "yardarm/level.words"], plainKeys := false, apart := false, laid := [("unicode/utf8.acceptRanges", laid_unicode_utf8_acceptRanges), ("yardarm/level.words", laid_yardarm_level_words), ("yardarm/history.limits", laid_yardarm_history_limits), ("yardarm/rules.asks", laid_yardarm_rules_asks), ("yardarm/session.guards", laid_yardarm_session_guards), ("unicode/utf8.first", laid_unicode_utf8_first)] }
def GuardGreatestSaid : Prop := guardGreatestRow.holds Tryz.pinned (OpenSpec.ofChange guardGreatestSpec)

/-- ITS FALSE NEIGHBOUR: 'it returns false'. Refute it at one input. -/
def guardGreatestWrong : ChangeSpec := { name := "guardGreatest", fn := fun _ => fun
  | [d1, d2] => { results := [.lit (.bool false)], args := [d1, d2] }
  | _ => none }
def GuardGreatestWrongFalsely : Prop := guardGreatestRow.holds Tryz.pinned (OpenSpec.ofChange guardGreatestWrong)

/-- 'yardarmlaw27.GuardRight': WHATEVER THE INPUT: true; the input reads as it did. -/
def guardRightSpec : ChangeSpec := { name := "guardRight", fn := fun _ => fun
  | [d] => { results := [.lit (.bool true)], args := [d] }
  | _ => none }
def guardRightRow : OpenClaim := { program := "ytcaijocpofcbdaagreatdoor", sum := "99e2b10a7dd0ab6ca00d8a66475fa374610278294920d75677a92c0c7a5ef52b", func := "yardarm/yardarmlaw27.GuardRight", spec := "guardRight", inPlace := ["internal/abi.NoEscape", "internal/bytealg.MakeNoZero"], unfollowed := true, recurses := true, named := ["yardarm/history.limits", "unicode/utf8.first", "unicode/utf8.acceptRanges", "yardarm/rules.asks", "yardarm/session.guards", "yardarm/level.words"], plainKeys := false, apart := false, laid := [("unicode/utf8.acceptRanges", laid_unicode_utf8_acceptRanges), ("yardarm/level.words", laid_yardarm_level_words), ("yardarm/history.limits", laid_yardarm_history_limits), ("yardarm/rules.asks", laid_yardarm_rules_asks), ("yardarm/session.guards", laid_yardarm_session_guards), ("unicode/utf8.first", laid_unicode_utf8_first)] }
def GuardRightSaid : Prop := guardRightRow.holds Tryz.pinned (OpenSpec.ofChange guardRightSpec)

/-- ITS FALSE NEIGHBOUR: 'it returns false'. Refute it at one input. -/
def guardRightWrong : ChangeSpec := { name := "guardRight", fn := fun _ => fun
  | [d] => { results := [.lit (.bool false)], args := [d] }
  | _ => none }
def GuardRightWrongFalsely : Prop := guardRightRow.holds Tryz.pinned (OpenSpec.ofChange guardRightWrong)

/-- 'yardarmlaw27.GuardBack': WHATEVER THE INPUT: true; the input reads as it did. -/
def guardBackSpec : ChangeSpec := { name := "guardBack", fn := fun _ => fun
  | [d1, d2, d3] => { results := [.lit (.bool true)], args := [d1, d2, d3] }
  | _ => none }
def guardBackRow : OpenClaim := { program := "ytcaijocpofcbdaagreatdoor", sum := "99e2b10a7dd0ab6ca00d8a66475fa374610278294920d75677a92c0c7a5ef52b", func := "yardarm/yardarmlaw27.GuardBack", spec := "guardBack", inPlace := ["internal/abi.NoEscape", "internal/bytealg.MakeNoZero"], unfollowed := true, recurses := true, named := ["yardarm/history.limits", "unicode/utf8.first", "unicode/utf8.acceptRanges", "yardarm/rules.asks", "yardarm/session.guards", "yardarm/level.words"], plainKeys := false, apart := false, laid := [("unicode/utf8.acceptRanges", laid_unicode_utf8_acceptRanges), ("yardarm/level.words", laid_yardarm_level_words), ("yardarm/history.limits", laid_yardarm_history_limits), ("yardarm/rules.asks", laid_yardarm_rules_asks), ("yardarm/session.guards", laid_yardarm_session_guards), ("unicode/utf8.first", laid_unicode_utf8_first)] }
def GuardBackSaid : Prop := guardBackRow.holds Tryz.pinned (OpenSpec.ofChange guardBackSpec)

/-- ITS FALSE NEIGHBOUR: 'it returns false'. Refute it at one input. -/
def guardBackWrong : ChangeSpec := { name := "guardBack", fn := fun _ => fun
  | [d1, d2, d3] => { results := [.lit (.bool false)], args := [d1, d2, d3] }
  | _ => none }
def GuardBackWrongFalsely : Prop := guardBackRow.holds Tryz.pinned (OpenSpec.ofChange guardBackWrong)

/- THE SECOND FORM. 'bulk': how many values and letters a reading holds, each counted each time it is reached (what is shared counts as often as it is met; a slice's spare places count too). A statement '..UptoSaid' is the law's where the arguments, and the package variables that the reading takes, are together of bulk at most 1048576: NARROWER than '..Said'. Prove '..Said' where nothing that the law and all that it calls make is longer than what came in: it says more and counts as full. Else prove '..UptoSaid'. A law counts once. -/
mutual
def uptoBulk {H : Type} : DataW H → Nat
  | .lit (.string bytes) => bytes.length + 1
  | .lit _ => 1
  | .nil => 1
  | .ptr d => uptoBulk d + 1
  | .slice elems spare => uptoBulkAll elems + uptoBulkAll spare + 1
  | .agg parts => uptoBulkAll parts + 1
  | .iface _ d => uptoBulk d + 1
  | .map entries => uptoBulkEntries entries + 1
  | .held _ => 1
def uptoBulkAll {H : Type} : List (DataW H) → Nat
  | [] => 0
  | d :: r => uptoBulk d + uptoBulkAll r
def uptoBulkEntries {H : Type} : List (Lit × DataW H) → Nat
  | [] => 0
  | x :: r => uptoBulkEntry x + uptoBulkEntries r
def uptoBulkEntry {H : Type} : Lit × DataW H → Nat
  | (.string bytes, d) => bytes.length + uptoBulk d + 1
  | (_, d) => uptoBulk d + 1
 end
def uptoSmall : (H : Type) → List (DataW H) → Bool := fun _ ds => decide (uptoBulkAll ds ≤ 1048576)
def OpenSpec.upto (s : _root_.Go.ChangeSpec) : _root_.Go.OpenSpec := { _root_.Go.OpenSpec.ofChange s with cond := some uptoSmall }

/-- 'yardarmlaw26.SessionFirst', WHERE WHAT IT READS IS OF BULK AT MOST 1048576: true; the input reads as it did. -/
def sessionFirstUptoRow : OpenClaim := { program := "ytcaijocpofcbdaagreatdoor", sum := "99e2b10a7dd0ab6ca00d8a66475fa374610278294920d75677a92c0c7a5ef52b", func := "yardarm/yardarmlaw26.SessionFirst", spec := "sessionFirst", unfollowed := true, recurses := true, named := ["yardarm/session.guards", "yardarm/history.limits", "unicode/utf8.first", "unicode/utf8.acceptRanges", "yardarm/rules.asks"], plainKeys := false, apart := false, laid := [("unicode/utf8.acceptRanges", laid_unicode_utf8_acceptRanges), ("yardarm/history.limits", laid_yardarm_history_limits), ("yardarm/rules.asks", laid_yardarm_rules_asks), ("yardarm/session.guards", laid_yardarm_session_guards), ("unicode/utf8.first", laid_unicode_utf8_first)], narrowed := true }
def SessionFirstUptoSaid : Prop := sessionFirstUptoRow.holds Tryz.pinned (OpenSpec.upto sessionFirstSpec)

/-- 'yardarmlaw26.SessionAsked', WHERE WHAT IT READS IS OF BULK AT MOST 1048576: true; the input reads as it did. -/
def sessionAskedUptoRow : OpenClaim := { program := "ytcaijocpofcbdaagreatdoor", sum := "99e2b10a7dd0ab6ca00d8a66475fa374610278294920d75677a92c0c7a5ef52b", func := "yardarm/yardarmlaw26.SessionAsked", spec := "sessionAsked", unfollowed := true, recurses := true, named := ["yardarm/session.guards", "yardarm/history.limits", "unicode/utf8.first", "unicode/utf8.acceptRanges", "yardarm/rules.asks"], plainKeys := false, apart := false, laid := [("unicode/utf8.acceptRanges", laid_unicode_utf8_acceptRanges), ("yardarm/history.limits", laid_yardarm_history_limits), ("yardarm/rules.asks", laid_yardarm_rules_asks), ("yardarm/session.guards", laid_yardarm_session_guards), ("unicode/utf8.first", laid_unicode_utf8_first)], narrowed := true }
def SessionAskedUptoSaid : Prop := sessionAskedUptoRow.holds Tryz.pinned (OpenSpec.upto sessionAskedSpec)

/-- 'yardarmlaw26.SessionHas', WHERE WHAT IT READS IS OF BULK AT MOST 1048576: true; the input reads as it did. -/
def sessionHasUptoRow : OpenClaim := { program := "ytcaijocpofcbdaagreatdoor", sum := "99e2b10a7dd0ab6ca00d8a66475fa374610278294920d75677a92c0c7a5ef52b", func := "yardarm/yardarmlaw26.SessionHas", spec := "sessionHas", unfollowed := true, recurses := true, named := ["yardarm/session.guards", "yardarm/history.limits", "unicode/utf8.first", "unicode/utf8.acceptRanges", "yardarm/rules.asks"], plainKeys := false, apart := false, laid := [("unicode/utf8.acceptRanges", laid_unicode_utf8_acceptRanges), ("yardarm/history.limits", laid_yardarm_history_limits), ("yardarm/rules.asks", laid_yardarm_rules_asks), ("yardarm/session.guards", laid_yardarm_session_guards), ("unicode/utf8.first", laid_unicode_utf8_first)], narrowed := true }
def SessionHasUptoSaid : Prop := sessionHasUptoRow.holds Tryz.pinned (OpenSpec.upto sessionHasSpec)

/-- 'yardarmlaw26.SessionShows', WHERE WHAT IT READS IS OF BULK AT MOST 1048576: true; the input reads as it did. -/
def sessionShowsUptoRow : OpenClaim := { program := "ytcaijocpofcbdaagreatdoor", sum := "99e2b10a7dd0ab6ca00d8a66475fa374610278294920d75677a92c0c7a5ef52b", func := "yardarm/yardarmlaw26.SessionShows", spec := "sessionShows", unfollowed := true, recurses := true, named := ["yardarm/session.guards", "yardarm/history.limits", "unicode/utf8.first", "unicode/utf8.acceptRanges", "yardarm/rules.asks"], plainKeys := false, apart := false, laid := [("unicode/utf8.acceptRanges", laid_unicode_utf8_acceptRanges), ("yardarm/history.limits", laid_yardarm_history_limits), ("yardarm/rules.asks", laid_yardarm_rules_asks), ("yardarm/session.guards", laid_yardarm_session_guards), ("unicode/utf8.first", laid_unicode_utf8_first)], narrowed := true }
def SessionShowsUptoSaid : Prop := sessionShowsUptoRow.holds Tryz.pinned (OpenSpec.upto sessionShowsSpec)

/-- 'yardarmlaw27.GuardTells', WHERE WHAT IT READS IS OF BULK AT MOST 1048576: true; the input reads as it did. -/
def guardTellsUptoRow : OpenClaim := { program := "ytcaijocpofcbdaagreatdoor", sum := "99e2b10a7dd0ab6ca00d8a66475fa374610278294920d75677a92c0c7a5ef52b", func := "yardarm/yardarmlaw27.GuardTells", spec := "guardTells", inPlace := ["internal/abi.NoEscape", "internal/bytealg.MakeNoZero"], unfollowed := true, recurses := true, named := ["yardarm/history.limits", "unicode/utf8.first", "unicode/utf8.acceptRanges", "yardarm/rules.asks", "yardarm/session.guards", "yardarm/level.words"], plainKeys := false, apart := false, laid := [("unicode/utf8.acceptRanges", laid_unicode_utf8_acceptRanges), ("yardarm/level.words", laid_yardarm_level_words), ("yardarm/history.limits", laid_yardarm_history_limits), ("yardarm/rules.asks", laid_yardarm_rules_asks), ("yardarm/session.guards", laid_yardarm_session_guards), ("unicode/utf8.first", laid_unicode_utf8_first)], narrowed := true }
def GuardTellsUptoSaid : Prop := guardTellsUptoRow.holds Tryz.pinned (OpenSpec.upto guardTellsSpec)

/-- 'yardarmlaw27.GuardAsks', WHERE WHAT IT READS IS OF BULK AT MOST 1048576: true; the input reads as it did. -/
def guardAsksUptoRow : OpenClaim := { program := "ytcaijocpofcbdaagreatdoor", sum := "99e2b10a7dd0ab6ca00d8a66475fa374610278294920d75677a92c0c7a5ef52b", func := "yardarm/yardarmlaw27.GuardAsks", spec := "guardAsks", inPlace := ["internal/abi.NoEscape", "internal/bytealg.MakeNoZero"], unfollowed := true, recurses := true, named := ["yardarm/history.limits", "unicode/utf8.first", "unicode/utf8.acceptRanges", "yardarm/rules.asks", "yardarm/session.guards", "yardarm/level.words"], plainKeys := false, apart := false, laid := [("unicode/utf8.acceptRanges", laid_unicode_utf8_acceptRanges), ("yardarm/level.words", laid_yardarm_level_words), ("yardarm/history.limits", laid_yardarm_history_limits), ("yardarm/rules.asks", laid_yardarm_rules_asks), ("yardarm/session.guards", laid_yardarm_session_guards), ("unicode/utf8.first", laid_unicode_utf8_first)], narrowed := true }
def GuardAsksUptoSaid : Prop := guardAsksUptoRow.holds Tryz.pinned (OpenSpec.upto guardAsksSpec)

/-- 'yardarmlaw27.GuardGreatest', WHERE WHAT IT READS IS OF BULK AT MOST 1048576: true; the input reads as it did. -/
def guardGreatestUptoRow : OpenClaim := { program := "ytcaijocpofcbdaagreatdoor", sum := "99e2b10a7dd0ab6ca00d8a66475fa374610278294920d75677a92c0c7a5ef52b", func := "yardarm/yardarmlaw27.GuardGreatest", spec := "guardGreatest", inPlace := ["internal/abi.NoEscape", "internal/bytealg.MakeNoZero"], unfollowed := true, recurses := true, named := ["yardarm/history.limits", "unicode/utf8.first", "unicode/utf8.acceptRanges", "yardarm/rules.asks", "yardarm/session.guards", "yardarm/level.words"], plainKeys := false, apart := false, laid := [("unicode/utf8.acceptRanges", laid_unicode_utf8_acceptRanges), ("yardarm/level.words", laid_yardarm_level_words), ("yardarm/history.limits", laid_yardarm_history_limits), ("yardarm/rules.asks", laid_yardarm_rules_asks), ("yardarm/session.guards", laid_yardarm_session_guards), ("unicode/utf8.first", laid_unicode_utf8_first)], narrowed := true }
def GuardGreatestUptoSaid : Prop := guardGreatestUptoRow.holds Tryz.pinned (OpenSpec.upto guardGreatestSpec)

/-- 'yardarmlaw27.GuardRight', WHERE WHAT IT READS IS OF BULK AT MOST 1048576: true; the input reads as it did. -/
def guardRightUptoRow : OpenClaim := { program := "ytcaijocpofcbdaagreatdoor", sum := "99e2b10a7dd0ab6ca00d8a66475fa374610278294920d75677a92c0c7a5ef52b", func := "yardarm/yardarmlaw27.GuardRight", spec := "guardRight", inPlace := ["internal/abi.NoEscape", "internal/bytealg.MakeNoZero"], unfollowed := true, recurses := true, named := ["yardarm/history.limits", "unicode/utf8.first", "unicode/utf8.acceptRanges", "yardarm/rules.asks", "yardarm/session.guards", "yardarm/level.words"], plainKeys := false, apart := false, laid := [("unicode/utf8.acceptRanges", laid_unicode_utf8_acceptRanges), ("yardarm/level.words", laid_yardarm_level_words), ("yardarm/history.limits", laid_yardarm_history_limits), ("yardarm/rules.asks", laid_yardarm_rules_asks), ("yardarm/session.guards", laid_yardarm_session_guards), ("unicode/utf8.first", laid_unicode_utf8_first)], narrowed := true }
def GuardRightUptoSaid : Prop := guardRightUptoRow.holds Tryz.pinned (OpenSpec.upto guardRightSpec)

/-- 'yardarmlaw27.GuardBack', WHERE WHAT IT READS IS OF BULK AT MOST 1048576: true; the input reads as it did. -/
def guardBackUptoRow : OpenClaim := { program := "ytcaijocpofcbdaagreatdoor", sum := "99e2b10a7dd0ab6ca00d8a66475fa374610278294920d75677a92c0c7a5ef52b", func := "yardarm/yardarmlaw27.GuardBack", spec := "guardBack", inPlace := ["internal/abi.NoEscape", "internal/bytealg.MakeNoZero"], unfollowed := true, recurses := true, named := ["yardarm/history.limits", "unicode/utf8.first", "unicode/utf8.acceptRanges", "yardarm/rules.asks", "yardarm/session.guards", "yardarm/level.words"], plainKeys := false, apart := false, laid := [("unicode/utf8.acceptRanges", laid_unicode_utf8_acceptRanges), ("yardarm/level.words", laid_yardarm_level_words), ("yardarm/history.limits", laid_yardarm_history_limits), ("yardarm/rules.asks", laid_yardarm_rules_asks), ("yardarm/session.guards", laid_yardarm_session_guards), ("unicode/utf8.first", laid_unicode_utf8_first)], narrowed := true }
def GuardBackUptoSaid : Prop := guardBackUptoRow.holds Tryz.pinned (OpenSpec.upto guardBackSpec)

end Rows
end Go.Proofs.YtcaijocpofcbdaaGreatDoor
