/-
  No cell of these rows narrows 'for every input' (looked for: loops, veiled, ifaces, maps, wideKeys, modest, calm, conditions, laid).
  DERIVED. THE GIVEN ROWS OF THIS SEAT. 2 by the template 'for every input the law returns true; each argument reads behind the call as it read before'; 0 by the template 'total and deterministic' (their statements: YtcooiollckhdlaaGreatTotals.lean).
  GIVEN WITH THE SEED: the statements are not yours to turn. If you find one false, say at which input.
  Laid BY PROGRAM, IN A SANDBOX (cutbox-rows.mjs): the forced cells as the released guide's own fill.sh prints them over the translation 9798d9d5a0a2e053… (all of the seat's roots in one cut). By AI agents, Wed Nov 11 2026. No macro, syntax, notation, axiom, sorry.
-/
import Derived.Test.YtcooiollckhdlaaGreatChecked
import GoSem.Claim
import GoSem.ClaimJoined
import GoSem.ClaimMapViews
import Derived.JoinedTies
import Derived.KernelRfl
namespace Go.Proofs.YtcooiollckhdlaaGreat
/- THE CELL 'sum', in the pinned program and in every row, IS THE sha256 OF THE DUMP (.gsa) THAT YtcooiollckhdlaaGreatProg.lean LOADS. Nothing in Lean hashes anything: it is a label: what it is worth is what the hold of that sum in a sandbox is worth. -/
noncomputable def Tryz.pinned : Pinned := { name := "ytcooiollckhdlaagreat", sum := "9798d9d5a0a2e0539e9aab8ce97550263fe9bfec9d46a52c585dff1e99403f22", checked := Tryz.checked }
namespace Rows
def none {H : Type} : Left H := { results := [], args := [] }

/-- 'yardarmlaw06.SccSets': WHATEVER THE INPUT: true; the input reads as it did. -/
def sccSetsSpec : ChangeSpec := { name := "sccSets", fn := fun _ => fun
  | [d] => { results := [.lit (.bool true)], args := [d] }
  | _ => none }
def sccSetsRow : OpenClaim := { program := "ytcooiollckhdlaagreat", sum := "9798d9d5a0a2e0539e9aab8ce97550263fe9bfec9d46a52c585dff1e99403f22", func := "yardarm/yardarmlaw06.SccSets", spec := "sccSets", unfollowed := true, recurses := true, apart := false }
def SccSetsSaid : Prop := sccSetsRow.holds Tryz.pinned (OpenSpec.ofChange sccSetsSpec)

/-- ITS FALSE NEIGHBOUR: 'it returns false'. Refute it at one input. -/
def sccSetsWrong : ChangeSpec := { name := "sccSets", fn := fun _ => fun
  | [d] => { results := [.lit (.bool false)], args := [d] }
  | _ => none }
def SccSetsWrongFalsely : Prop := sccSetsRow.holds Tryz.pinned (OpenSpec.ofChange sccSetsWrong)

/-- 'yardarmlaw06.SccGraphs': WHATEVER THE INPUT: true; the input reads as it did. -/
def sccGraphsSpec : ChangeSpec := { name := "sccGraphs", fn := fun _ => fun
  | [d] => { results := [.lit (.bool true)], args := [d] }
  | _ => none }
def sccGraphsRow : OpenClaim := { program := "ytcooiollckhdlaagreat", sum := "9798d9d5a0a2e0539e9aab8ce97550263fe9bfec9d46a52c585dff1e99403f22", func := "yardarm/yardarmlaw06.SccGraphs", spec := "sccGraphs", unfollowed := true, recurses := true, apart := false }
def SccGraphsSaid : Prop := sccGraphsRow.holds Tryz.pinned (OpenSpec.ofChange sccGraphsSpec)

/-- ITS FALSE NEIGHBOUR: 'it returns false'. Refute it at one input. -/
def sccGraphsWrong : ChangeSpec := { name := "sccGraphs", fn := fun _ => fun
  | [d] => { results := [.lit (.bool false)], args := [d] }
  | _ => none }
def SccGraphsWrongFalsely : Prop := sccGraphsRow.holds Tryz.pinned (OpenSpec.ofChange sccGraphsWrong)

/- THE SECOND FORM. 'bulk': how many values and letters a reading holds, each counted each time it is reached (what is shared counts as often as it is met; a slice's spare places count too). A statement '..UptoSaid' is the law's where the arguments, and the package variables that the reading takes, are together of bulk at most 1048576: NARROWER than '..Said'. Prove '..Said' where nothing that the law and all that it calls make is longer than what came in: it says more and counts as full. Else prove '..UptoSaid'. A law counts once. -/
mutual
def uptoBulk {H : Type} : DataW H → Nat
  | .lit (.string bytes) => bytes.length + 1
  | .lit _ => 1
  | .nil => 1
  | .ptr d => uptoBulk d + 1
  | .slice elems spare => uptoBulkAll elems + uptoBulkAll spare + 1
  | .agg parts => uptoBulkAll parts + 1
  | .iface _ d => uptoBulk d + 1
  | .map entries => uptoBulkEntries entries + 1
  | .held _ => 1
def uptoBulkAll {H : Type} : List (DataW H) → Nat
  | [] => 0
  | d :: r => uptoBulk d + uptoBulkAll r
def uptoBulkEntries {H : Type} : List (Lit × DataW H) → Nat
  | [] => 0
  | x :: r => uptoBulkEntry x + uptoBulkEntries r
def uptoBulkEntry {H : Type} : Lit × DataW H → Nat
  | (.string bytes, d) => bytes.length + uptoBulk d + 1
  | (_, d) => uptoBulk d + 1
 end
def uptoSmall : (H : Type) → List (DataW H) → Bool := fun _ ds => decide (uptoBulkAll ds ≤ 1048576)
def OpenSpec.upto (s : _root_.Go.ChangeSpec) : _root_.Go.OpenSpec := { _root_.Go.OpenSpec.ofChange s with cond := some uptoSmall }

/-- 'yardarmlaw06.SccSets', WHERE WHAT IT READS IS OF BULK AT MOST 1048576: true; the input reads as it did. -/
def sccSetsUptoRow : OpenClaim := { program := "ytcooiollckhdlaagreat", sum := "9798d9d5a0a2e0539e9aab8ce97550263fe9bfec9d46a52c585dff1e99403f22", func := "yardarm/yardarmlaw06.SccSets", spec := "sccSets", unfollowed := true, recurses := true, apart := false, narrowed := true }
def SccSetsUptoSaid : Prop := sccSetsUptoRow.holds Tryz.pinned (OpenSpec.upto sccSetsSpec)

/-- 'yardarmlaw06.SccGraphs', WHERE WHAT IT READS IS OF BULK AT MOST 1048576: true; the input reads as it did. -/
def sccGraphsUptoRow : OpenClaim := { program := "ytcooiollckhdlaagreat", sum := "9798d9d5a0a2e0539e9aab8ce97550263fe9bfec9d46a52c585dff1e99403f22", func := "yardarm/yardarmlaw06.SccGraphs", spec := "sccGraphs", unfollowed := true, recurses := true, apart := false, narrowed := true }
def SccGraphsUptoSaid : Prop := sccGraphsUptoRow.holds Tryz.pinned (OpenSpec.upto sccGraphsSpec)

end Rows
end Go.Proofs.YtcooiollckhdlaaGreat
