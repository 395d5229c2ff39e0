/-
  No cell of these rows narrows 'for every input' (looked for: loops, veiled, ifaces, maps, wideKeys, modest, calm, conditions, laid).
  DERIVED. THE GIVEN ROWS OF THIS SEAT. 3 by the template 'for every input the law returns true; each argument reads behind the call as it read before'; 0 by the template 'total and deterministic' (their statements: YtcooiollckhdlaaTotals.lean).
  GIVEN WITH THE SEED: the statements are not yours to turn. If you find one false, say at which input.
  Laid BY PROGRAM, IN A SANDBOX (cutbox-rows.mjs): the forced cells as the released guide's own fill.sh prints them over the translation 0c6e6ccaa97ae23a… (all of the seat's roots in one cut). By AI agents, Wed Nov 11 2026. No macro, syntax, notation, axiom, sorry.
-/
import Derived.Test.YtcooiollckhdlaaChecked
import GoSem.Claim
import GoSem.ClaimJoined
import GoSem.ClaimMapViews
import Derived.JoinedTies
import Derived.KernelRfl
namespace Go.Proofs.Ytcooiollckhdlaa
/- THE CELL 'sum', in the pinned program and in every row, IS THE sha256 OF THE DUMP (.gsa) THAT YtcooiollckhdlaaProg.lean LOADS. Nothing in Lean hashes anything: it is a label: what it is worth is what the hold of that sum in a sandbox is worth. -/
noncomputable def Try.pinned : Pinned := { name := "ytcooiollckhdlaa", sum := "0c6e6ccaa97ae23ac7896c7e6456264f89fb49d3219617335e967df7e5d553ef", checked := Try.checked }
namespace Rows
def none {H : Type} : Left H := { results := [], args := [] }

/-- 'yardarmlaw06.SccEdges': WHATEVER THE INPUT: true; the input reads as it did. -/
def sccEdgesSpec : ChangeSpec := { name := "sccEdges", fn := fun _ => fun
  | [d1, d2, d3] => { results := [.lit (.bool true)], args := [d1, d2, d3] }
  | _ => none }
def sccEdgesRow : OpenClaim := { program := "ytcooiollckhdlaa", sum := "0c6e6ccaa97ae23ac7896c7e6456264f89fb49d3219617335e967df7e5d553ef", func := "yardarm/yardarmlaw06.SccEdges", spec := "sccEdges", unfollowed := true, recurses := true, apart := false }
def SccEdgesSaid : Prop := sccEdgesRow.holds Try.pinned (OpenSpec.ofChange sccEdgesSpec)

/-- ITS FALSE NEIGHBOUR: 'it returns false'. Refute it at one input. -/
def sccEdgesWrong : ChangeSpec := { name := "sccEdges", fn := fun _ => fun
  | [d1, d2, d3] => { results := [.lit (.bool false)], args := [d1, d2, d3] }
  | _ => none }
def SccEdgesWrongFalsely : Prop := sccEdgesRow.holds Try.pinned (OpenSpec.ofChange sccEdgesWrong)

/-- 'yardarmlaw06.SccParts': WHATEVER THE INPUT: true; the input reads as it did. -/
def sccPartsSpec : ChangeSpec := { name := "sccParts", fn := fun _ => fun
  | [d] => { results := [.lit (.bool true)], args := [d] }
  | _ => none }
def sccPartsRow : OpenClaim := { program := "ytcooiollckhdlaa", sum := "0c6e6ccaa97ae23ac7896c7e6456264f89fb49d3219617335e967df7e5d553ef", func := "yardarm/yardarmlaw06.SccParts", spec := "sccParts", unfollowed := true, recurses := true, apart := false }
def SccPartsSaid : Prop := sccPartsRow.holds Try.pinned (OpenSpec.ofChange sccPartsSpec)

/-- ITS FALSE NEIGHBOUR: 'it returns false'. Refute it at one input. -/
def sccPartsWrong : ChangeSpec := { name := "sccParts", fn := fun _ => fun
  | [d] => { results := [.lit (.bool false)], args := [d] }
  | _ => none }
def SccPartsWrongFalsely : Prop := sccPartsRow.holds Try.pinned (OpenSpec.ofChange sccPartsWrong)

/-- 'yardarmlaw06.SccFolds': WHATEVER THE INPUT: true; the input reads as it did. -/
def sccFoldsSpec : ChangeSpec := { name := "sccFolds", fn := fun _ => fun
  | [d] => { results := [.lit (.bool true)], args := [d] }
  | _ => none }
def sccFoldsRow : OpenClaim := { program := "ytcooiollckhdlaa", sum := "0c6e6ccaa97ae23ac7896c7e6456264f89fb49d3219617335e967df7e5d553ef", func := "yardarm/yardarmlaw06.SccFolds", spec := "sccFolds", unfollowed := true, recurses := true, apart := false }
def SccFoldsSaid : Prop := sccFoldsRow.holds Try.pinned (OpenSpec.ofChange sccFoldsSpec)

/-- ITS FALSE NEIGHBOUR: 'it returns false'. Refute it at one input. -/
def sccFoldsWrong : ChangeSpec := { name := "sccFolds", fn := fun _ => fun
  | [d] => { results := [.lit (.bool false)], args := [d] }
  | _ => none }
def SccFoldsWrongFalsely : Prop := sccFoldsRow.holds Try.pinned (OpenSpec.ofChange sccFoldsWrong)

/- THE SECOND FORM. 'bulk': how many values and letters a reading holds, each counted each time it is reached (what is shared counts as often as it is met; a slice's spare places count too). A statement '..UptoSaid' is the law's where the arguments, and the package variables that the reading takes, are together of bulk at most 1048576: NARROWER than '..Said'. Prove '..Said' where nothing that the law and all that it calls make is longer than what came in: it says more and counts as full. Else prove '..UptoSaid'. A law counts once. -/
mutual
def uptoBulk {H : Type} : DataW H → Nat
  | .lit (.string bytes) => bytes.length + 1
  | .lit _ => 1
  | .nil => 1
  | .ptr d => uptoBulk d + 1
  | .slice elems spare => uptoBulkAll elems + uptoBulkAll spare + 1
  | .agg parts => uptoBulkAll parts + 1
  | .iface _ d => uptoBulk d + 1
  | .map entries => uptoBulkEntries entries + 1
  | .held _ => 1
def uptoBulkAll {H : Type} : List (DataW H) → Nat
  | [] => 0
  | d :: r => uptoBulk d + uptoBulkAll r
def uptoBulkEntries {H : Type} : List (Lit × DataW H) → Nat
  | [] => 0
  | x :: r => uptoBulkEntry x + uptoBulkEntries r
def uptoBulkEntry {H : Type} : Lit × DataW H → Nat
  | (.string bytes, d) => bytes.length + uptoBulk d + 1
  | (_, d) => uptoBulk d + 1
 end
def uptoSmall : (H : Type) → List (DataW H) → Bool := fun _ ds => decide (uptoBulkAll ds ≤ 1048576)
def OpenSpec.upto (s : _root_.Go.ChangeSpec) : _root_.Go.OpenSpec := { _root_.Go.OpenSpec.ofChange s with cond := some uptoSmall }

/-- 'yardarmlaw06.SccEdges', WHERE WHAT IT READS IS OF BULK AT MOST 1048576: true; the input reads as it did. -/
def sccEdgesUptoRow : OpenClaim := { program := "ytcooiollckhdlaa", sum := "0c6e6ccaa97ae23ac7896c7e6456264f89fb49d3219617335e967df7e5d553ef", func := "yardarm/yardarmlaw06.SccEdges", spec := "sccEdges", unfollowed := true, recurses := true, apart := false, narrowed := true }
def SccEdgesUptoSaid : Prop := sccEdgesUptoRow.holds Try.pinned (OpenSpec.upto sccEdgesSpec)

/-- 'yardarmlaw06.SccParts', WHERE WHAT IT READS IS OF BULK AT MOST 1048576: true; the input reads as it did. -/
def sccPartsUptoRow : OpenClaim := { program := "ytcooiollckhdlaa", sum := "0c6e6ccaa97ae23ac7896c7e6456264f89fb49d3219617335e967df7e5d553ef", func := "yardarm/yardarmlaw06.SccParts", spec := "sccParts", unfollowed := true, recurses := true, apart := false, narrowed := true }
def SccPartsUptoSaid : Prop := sccPartsUptoRow.holds Try.pinned (OpenSpec.upto sccPartsSpec)

/-- 'yardarmlaw06.SccFolds', WHERE WHAT IT READS IS OF BULK AT MOST 1048576: true; the input reads as it did. -/
def sccFoldsUptoRow : OpenClaim := { program := "ytcooiollckhdlaa", sum := "0c6e6ccaa97ae23ac7896c7e6456264f89fb49d3219617335e967df7e5d553ef", func := "yardarm/yardarmlaw06.SccFolds", spec := "sccFolds", unfollowed := true, recurses := true, apart := false, narrowed := true }
def SccFoldsUptoSaid : Prop := sccFoldsUptoRow.holds Try.pinned (OpenSpec.upto sccFoldsSpec)

end Rows
end Go.Proofs.Ytcooiollckhdlaa
