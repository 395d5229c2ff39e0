/-
  NARROWER THAN 'FOR EVERY INPUT', by the rows' own cells (each row's printed sentence says how): PathWays: laid · PathRounds: laid · PathIs: laid · PathShort: laid · PathRound: laid · PathMore: laid.
  DERIVED. THE GIVEN ROWS OF THIS SEAT. 6 by the template 'for every input the law returns true; each argument reads behind the call as it read before'; 0 by the template 'total and deterministic' (their statements: YtcooiollckhdlaaGreatDoorTotals.lean).
  GIVEN WITH THE SEED: the statements are not yours to turn. If you find one false, say at which input.
  Laid BY PROGRAM, IN A SANDBOX (cutbox-rows.mjs): the forced cells as the released guide's own fill.sh prints them over the translation b3c4caae756bb16b… (all of the seat's roots in one cut). By AI agents, Wed Nov 11 2026. No macro, syntax, notation, axiom, sorry.
-/
import Derived.Test.YtcooiollckhdlaaGreatDoorChecked
import GoSem.Claim
import GoSem.ClaimJoined
import GoSem.ClaimMapViews
import Derived.JoinedTies
import Derived.KernelRfl
namespace Go.Proofs.YtcooiollckhdlaaGreatDoor
/- THE CELL 'sum', in the pinned program and in every row, IS THE sha256 OF THE DUMP (.gsa) THAT YtcooiollckhdlaaGreatDoorProg.lean LOADS. Nothing in Lean hashes anything: it is a label: what it is worth is what the hold of that sum in a sandbox is worth. -/
noncomputable def Tryz.pinned : Pinned := { name := "ytcooiollckhdlaagreatdoor", sum := "b3c4caae756bb16bd11e8fac7a51f0f3b6b37a22d355baf1ccdf245fb783b869", checked := Tryz.checked }
namespace Rows
def none {H : Type} : Left H := { results := [], args := [] }

/- WHAT THE LISTED PACKAGE-LEVEL VARIABLES READ AS WHEN THE CALL BEGINS. Each datum BY PROGRAM (the guide's laid-datum.mjs) off the statement by which the dump's own 'gosem.cut.vars' lays the variable. In a bare row this is a premise. The card (YtcooiollckhdlaaGreatDoorCards.lean) ties it to the program's text. -/
def laid_math_bits_deBruijn64tab {H : Type} : DataW H := .agg [.lit (.int .u8 0), .lit (.int .u8 1), .lit (.int .u8 56), .lit (.int .u8 2), .lit (.int .u8 57), .lit (.int .u8 49), .lit (.int .u8 28), .lit (.int .u8 3), .lit (.int .u8 61), .lit (.int .u8 58), .lit (.int .u8 42), .lit (.int .u8 50), .lit (.int .u8 38), .lit (.int .u8 29), .lit (.int .u8 17), .lit (.int .u8 4), .lit (.int .u8 62), .lit (.int .u8 47), .lit (.int .u8 59), .lit (.int .u8 36), .lit (.int .u8 45), .lit (.int .u8 43), .lit (.int .u8 51), .lit (.int .u8 22), .lit (.int .u8 53), .lit (.int .u8 39), .lit (.int .u8 33), .lit (.int .u8 30), .lit (.int .u8 24), .lit (.int .u8 18), .lit (.int .u8 12), .lit (.int .u8 5), .lit (.int .u8 63), .lit (.int .u8 55), .lit (.int .u8 48), .lit (.int .u8 27), .lit (.int .u8 60), .lit (.int .u8 41), .lit (.int .u8 37), .lit (.int .u8 16), .lit (.int .u8 46), .lit (.int .u8 35), .lit (.int .u8 44), .lit (.int .u8 21), .lit (.int .u8 52), .lit (.int .u8 32), .lit (.int .u8 23), .lit (.int .u8 11), .lit (.int .u8 54), .lit (.int .u8 26), .lit (.int .u8 40), .lit (.int .u8 15), .lit (.int .u8 34), .lit (.int .u8 20), .lit (.int .u8 31), .lit (.int .u8 10), .lit (.int .u8 25), .lit (.int .u8 14), .lit (.int .u8 19), .lit (.int .u8 9), .lit (.int .u8 13), .lit (.int .u8 8), .lit (.int .u8 7), .lit (.int .u8 6)]

/-- 'yardarmlaw08.PathWays': WHATEVER THE INPUT: true; the input reads as it did. -/
def pathWaysSpec : ChangeSpec := { name := "pathWays", fn := fun _ => fun
  | [d1, d2] => { results := [.lit (.bool true)], args := [d1, d2] }
  | _ => none }
def pathWaysRow : OpenClaim := { program := "ytcooiollckhdlaagreatdoor", sum := "b3c4caae756bb16bd11e8fac7a51f0f3b6b37a22d355baf1ccdf245fb783b869", func := "yardarm/yardarmlaw08.PathWays", spec := "pathWays", unfollowed := true, recurses := true, named := ["math/bits.deBruijn64tab"], apart := false, laid := [("math/bits.deBruijn64tab", laid_math_bits_deBruijn64tab)] }
def PathWaysSaid : Prop := pathWaysRow.holds Tryz.pinned (OpenSpec.ofChange pathWaysSpec)

/-- ITS FALSE NEIGHBOUR: 'it returns false'. Refute it at one input. -/
def pathWaysWrong : ChangeSpec := { name := "pathWays", fn := fun _ => fun
  | [d1, d2] => { results := [.lit (.bool false)], args := [d1, d2] }
  | _ => none }
def PathWaysWrongFalsely : Prop := pathWaysRow.holds Tryz.pinned (OpenSpec.ofChange pathWaysWrong)

/-- 'yardarmlaw08.PathRounds': WHATEVER THE INPUT: true; the input reads as it did. -/
def pathRoundsSpec : ChangeSpec := { name := "pathRounds", fn := fun _ => fun
  | [d1, d2] => { results := [.lit (.bool true)], args := [d1, d2] }
  | _ => none }
def pathRoundsRow : OpenClaim := { program := "ytcooiollckhdlaagreatdoor", sum := "b3c4caae756bb16bd11e8fac7a51f0f3b6b37a22d355baf1ccdf245fb783b869", func := "yardarm/yardarmlaw08.PathRounds", spec := "pathRounds", unfollowed := true, recurses := true, named := ["math/bits.deBruijn64tab"], apart := false, laid := [("math/bits.deBruijn64tab", laid_math_bits_deBruijn64tab)] }
def PathRoundsSaid : Prop := pathRoundsRow.holds Tryz.pinned (OpenSpec.ofChange pathRoundsSpec)

/-- ITS FALSE NEIGHBOUR: 'it returns false'. Refute it at one input. -/
def pathRoundsWrong : ChangeSpec := { name := "pathRounds", fn := fun _ => fun
  | [d1, d2] => { results := [.lit (.bool false)], args := [d1, d2] }
  | _ => none }
def PathRoundsWrongFalsely : Prop := pathRoundsRow.holds Tryz.pinned (OpenSpec.ofChange pathRoundsWrong)

/-- 'yardarmlaw08.PathIs': WHATEVER THE INPUT: true; the input reads as it did. -/
def pathIsSpec : ChangeSpec := { name := "pathIs", fn := fun _ => fun
  | [d1, d2, d3] => { results := [.lit (.bool true)], args := [d1, d2, d3] }
  | _ => none }
def pathIsRow : OpenClaim := { program := "ytcooiollckhdlaagreatdoor", sum := "b3c4caae756bb16bd11e8fac7a51f0f3b6b37a22d355baf1ccdf245fb783b869", func := "yardarm/yardarmlaw08.PathIs", spec := "pathIs", unfollowed := true, recurses := true, named := ["math/bits.deBruijn64tab"], apart := false, laid := [("math/bits.deBruijn64tab", laid_math_bits_deBruijn64tab)] }
def PathIsSaid : Prop := pathIsRow.holds Tryz.pinned (OpenSpec.ofChange pathIsSpec)

/-- ITS FALSE NEIGHBOUR: 'it returns false'. Refute it at one input. -/
def pathIsWrong : ChangeSpec := { name := "pathIs", fn := fun _ => fun
  | [d1, d2, d3] => { results := [.lit (.bool false)], args := [d1, d2, d3] }
  | _ => none }
def PathIsWrongFalsely : Prop := pathIsRow.holds Tryz.pinned (OpenSpec.ofChange pathIsWrong)

/-- 'yardarmlaw08.PathShort': WHATEVER THE INPUT: true; the input reads as it did. -/
def pathShortSpec : ChangeSpec := { name := "pathShort", fn := fun _ => fun
  | [d1, d2, d3] => { results := [.lit (.bool true)], args := [d1, d2, d3] }
  | _ => none }
def pathShortRow : OpenClaim := { program := "ytcooiollckhdlaagreatdoor", sum := "b3c4caae756bb16bd11e8fac7a51f0f3b6b37a22d355baf1ccdf245fb783b869", func := "yardarm/yardarmlaw08.PathShort", spec := "pathShort", unfollowed := true, recurses := true, named := ["math/bits.deBruijn64tab"], apart := false, laid := [("math/bits.deBruijn64tab", laid_math_bits_deBruijn64tab)] }
def PathShortSaid : Prop := pathShortRow.holds Tryz.pinned (OpenSpec.ofChange pathShortSpec)

/-- ITS FALSE NEIGHBOUR: 'it returns false'. Refute it at one input. -/
def pathShortWrong : ChangeSpec := { name := "pathShort", fn := fun _ => fun
  | [d1, d2, d3] => { results := [.lit (.bool false)], args := [d1, d2, d3] }
  | _ => none }
def PathShortWrongFalsely : Prop := pathShortRow.holds Tryz.pinned (OpenSpec.ofChange pathShortWrong)

/-- 'yardarmlaw08.PathRound': WHATEVER THE INPUT: true; the input reads as it did. -/
def pathRoundSpec : ChangeSpec := { name := "pathRound", fn := fun _ => fun
  | [d] => { results := [.lit (.bool true)], args := [d] }
  | _ => none }
def pathRoundRow : OpenClaim := { program := "ytcooiollckhdlaagreatdoor", sum := "b3c4caae756bb16bd11e8fac7a51f0f3b6b37a22d355baf1ccdf245fb783b869", func := "yardarm/yardarmlaw08.PathRound", spec := "pathRound", unfollowed := true, recurses := true, named := ["math/bits.deBruijn64tab"], apart := false, laid := [("math/bits.deBruijn64tab", laid_math_bits_deBruijn64tab)] }
def PathRoundSaid : Prop := pathRoundRow.holds Tryz.pinned (OpenSpec.ofChange pathRoundSpec)

/-- ITS FALSE NEIGHBOUR: 'it returns false'. Refute it at one input. -/
def pathRoundWrong : ChangeSpec := { name := "pathRound", fn := fun _ => fun
  | [d] => { results := [.lit (.bool false)], args := [d] }
  | _ => none }
def PathRoundWrongFalsely : Prop := pathRoundRow.holds Tryz.pinned (OpenSpec.ofChange pathRoundWrong)

/-- 'yardarmlaw08.PathMore': WHATEVER THE INPUT: true; the input reads as it did. -/
def pathMoreSpec : ChangeSpec := { name := "pathMore", fn := fun _ => fun
  | [d1, d2, d3] => { results := [.lit (.bool true)], args := [d1, d2, d3] }
  | _ => none }
def pathMoreRow : OpenClaim := { program := "ytcooiollckhdlaagreatdoor", sum := "b3c4caae756bb16bd11e8fac7a51f0f3b6b37a22d355baf1ccdf245fb783b869", func := "yardarm/yardarmlaw08.PathMore", spec := "pathMore", unfollowed := true, recurses := true, named := ["math/bits.deBruijn64tab"], apart := false, laid := [("math/bits.deBruijn64tab", laid_math_bits_deBruijn64tab)] }
def PathMoreSaid : Prop := pathMoreRow.holds Tryz.pinned (OpenSpec.ofChange pathMoreSpec)

/-- ITS FALSE NEIGHBOUR: 'it returns false'. Refute it at one input. -/
def pathMoreWrong : ChangeSpec := { name := "pathMore", fn := fun _ => fun
  | [d1, d2, d3] => { results := [.lit (.bool false)], args := [d1, d2, d3] }
  | _ => none }
def PathMoreWrongFalsely : Prop := pathMoreRow.holds Tryz.pinned (OpenSpec.ofChange pathMoreWrong)

/- THE SECOND FORM. 'bulk': how many values and letters a reading holds, each counted each time it is reached (what is shared counts as often as it is met; a slice's spare places count too). A statement '..UptoSaid' is the law's where the arguments, and the package variables that the reading takes, are together of bulk at most 1048576: NARROWER than '..Said'. Prove '..Said' where nothing that the law and all that it calls make is longer than what came in: it says more and counts as full. Else prove '..UptoSaid'. A law counts once. -/
mutual
def uptoBulk {H : Type} : DataW H → Nat
  | .lit (.string bytes) => bytes.length + 1
  | .lit _ => 1
  | .nil => 1
  | .ptr d => uptoBulk d + 1
  | .slice elems spare => uptoBulkAll elems + uptoBulkAll spare + 1
  | .agg parts => uptoBulkAll parts + 1
  | .iface _ d => uptoBulk d + 1
  | .map entries => uptoBulkEntries entries + 1
  | .held _ => 1
def uptoBulkAll {H : Type} : List (DataW H) → Nat
  | [] => 0
  | d :: r => uptoBulk d + uptoBulkAll r
def uptoBulkEntries {H : Type} : List (Lit × DataW H) → Nat
  | [] => 0
  | x :: r => uptoBulkEntry x + uptoBulkEntries r
def uptoBulkEntry {H : Type} : Lit × DataW H → Nat
  | (.string bytes, d) => bytes.length + uptoBulk d + 1
  | (_, d) => uptoBulk d + 1
 end
def uptoSmall : (H : Type) → List (DataW H) → Bool := fun _ ds => decide (uptoBulkAll ds ≤ 1048576)
def OpenSpec.upto (s : _root_.Go.ChangeSpec) : _root_.Go.OpenSpec := { _root_.Go.OpenSpec.ofChange s with cond := some uptoSmall }

/-- 'yardarmlaw08.PathWays', WHERE WHAT IT READS IS OF BULK AT MOST 1048576: true; the input reads as it did. -/
def pathWaysUptoRow : OpenClaim := { program := "ytcooiollckhdlaagreatdoor", sum := "b3c4caae756bb16bd11e8fac7a51f0f3b6b37a22d355baf1ccdf245fb783b869", func := "yardarm/yardarmlaw08.PathWays", spec := "pathWays", unfollowed := true, recurses := true, named := ["math/bits.deBruijn64tab"], apart := false, laid := [("math/bits.deBruijn64tab", laid_math_bits_deBruijn64tab)], narrowed := true }
def PathWaysUptoSaid : Prop := pathWaysUptoRow.holds Tryz.pinned (OpenSpec.upto pathWaysSpec)

/-- 'yardarmlaw08.PathRounds', WHERE WHAT IT READS IS OF BULK AT MOST 1048576: true; the input reads as it did. -/
def pathRoundsUptoRow : OpenClaim := { program := "ytcooiollckhdlaagreatdoor", sum := "b3c4caae756bb16bd11e8fac7a51f0f3b6b37a22d355baf1ccdf245fb783b869", func := "yardarm/yardarmlaw08.PathRounds", spec := "pathRounds", unfollowed := true, recurses := true, named := ["math/bits.deBruijn64tab"], apart := false, laid := [("math/bits.deBruijn64tab", laid_math_bits_deBruijn64tab)], narrowed := true }
def PathRoundsUptoSaid : Prop := pathRoundsUptoRow.holds Tryz.pinned (OpenSpec.upto pathRoundsSpec)

/-- 'yardarmlaw08.PathIs', WHERE WHAT IT READS IS OF BULK AT MOST 1048576: true; the input reads as it did. -/
def pathIsUptoRow : OpenClaim := { program := "ytcooiollckhdlaagreatdoor", sum := "b3c4caae756bb16bd11e8fac7a51f0f3b6b37a22d355baf1ccdf245fb783b869", func := "yardarm/yardarmlaw08.PathIs", spec := "pathIs", unfollowed := true, recurses := true, named := ["math/bits.deBruijn64tab"], apart := false, laid := [("math/bits.deBruijn64tab", laid_math_bits_deBruijn64tab)], narrowed := true }
def PathIsUptoSaid : Prop := pathIsUptoRow.holds Tryz.pinned (OpenSpec.upto pathIsSpec)

/-- 'yardarmlaw08.PathShort', WHERE WHAT IT READS IS OF BULK AT MOST 1048576: true; the input reads as it did. -/
def pathShortUptoRow : OpenClaim := { program := "ytcooiollckhdlaagreatdoor", sum := "b3c4caae756bb16bd11e8fac7a51f0f3b6b37a22d355baf1ccdf245fb783b869", func := "yardarm/yardarmlaw08.PathShort", spec := "pathShort", unfollowed := true, recurses := true, named := ["math/bits.deBruijn64tab"], apart := false, laid := [("math/bits.deBruijn64tab", laid_math_bits_deBruijn64tab)], narrowed := true }
def PathShortUptoSaid : Prop := pathShortUptoRow.holds Tryz.pinned (OpenSpec.upto pathShortSpec)

/-- 'yardarmlaw08.PathRound', WHERE WHAT IT READS IS OF BULK AT MOST 1048576: true; the input reads as it did. -/
def pathRoundUptoRow : OpenClaim := { program := "ytcooiollckhdlaagreatdoor", sum := "b3c4caae756bb16bd11e8fac7a51f0f3b6b37a22d355baf1ccdf245fb783b869", func := "yardarm/yardarmlaw08.PathRound", spec := "pathRound", unfollowed := true, recurses := true, named := ["math/bits.deBruijn64tab"], apart := false, laid := [("math/bits.deBruijn64tab", laid_math_bits_deBruijn64tab)], narrowed := true }
def PathRoundUptoSaid : Prop := pathRoundUptoRow.holds Tryz.pinned (OpenSpec.upto pathRoundSpec)

/-- 'yardarmlaw08.PathMore', WHERE WHAT IT READS IS OF BULK AT MOST 1048576: true; the input reads as it did. -/
def pathMoreUptoRow : OpenClaim := { program := "ytcooiollckhdlaagreatdoor", sum := "b3c4caae756bb16bd11e8fac7a51f0f3b6b37a22d355baf1ccdf245fb783b869", func := "yardarm/yardarmlaw08.PathMore", spec := "pathMore", unfollowed := true, recurses := true, named := ["math/bits.deBruijn64tab"], apart := false, laid := [("math/bits.deBruijn64tab", laid_math_bits_deBruijn64tab)], narrowed := true }
def PathMoreUptoSaid : Prop := pathMoreUptoRow.holds Tryz.pinned (OpenSpec.upto pathMoreSpec)

end Rows
end Go.Proofs.YtcooiollckhdlaaGreatDoor
