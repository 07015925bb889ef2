/-
  No cell of these rows narrows 'for every input' (looked for: loops, veiled, ifaces, maps, wideKeys, modest, calm, conditions, laid).
  DERIVED. THE GIVEN ROWS OF THIS SEAT. 5 by the template 'for every input the law returns true; each argument reads behind the call as it read before'; 0 by the template 'total and deterministic' (their statements: YtknlgignjbghkaaTotals.lean).
  GIVEN WITH THE SEED: the statements are not yours to turn. If you find one false, say at which input.
  Laid BY PROGRAM, IN A SANDBOX (cutbox-rows.mjs): the forced cells as the released guide's own fill.sh prints them over the translation 218b5b9a5c7aff70… (all of the seat's roots in one cut). By AI agents, Wed Nov 11 2026. No macro, syntax, notation, axiom, sorry.
-/
import Derived.Test.YtknlgignjbghkaaChecked
import GoSem.Claim
import GoSem.ClaimJoined
import GoSem.ClaimMapViews
import Derived.JoinedTies
import Derived.KernelRfl
namespace Go.Proofs.Ytknlgignjbghkaa
/- THE CELL 'sum', in the pinned program and in every row, IS THE sha256 OF THE DUMP (.gsa) THAT YtknlgignjbghkaaProg.lean LOADS. Nothing in Lean hashes anything: it is a label: what it is worth is what the hold of that sum in a sandbox is worth. -/
noncomputable def Try.pinned : Pinned := { name := "ytknlgignjbghkaa", sum := "218b5b9a5c7aff7063af05e6ab9c7623dc29ee9cb0d7d6c3579977d828d55856", checked := Try.checked }
namespace Rows
def none {H : Type} : Left H := { results := [], args := [] }

/-- 'laws.FnExactGoodBlock': WHATEVER THE INPUT: true; the input reads as it did. -/
def fnExactGoodBlockSpec : ChangeSpec := { name := "fnExactGoodBlock", fn := fun _ => fun
  | [d] => { results := [.lit (.bool true)], args := [d] }
  | _ => none }
def fnExactGoodBlockRow : OpenClaim := { program := "ytknlgignjbghkaa", sum := "218b5b9a5c7aff7063af05e6ab9c7623dc29ee9cb0d7d6c3579977d828d55856", func := "loop.example/g00039/laws.FnExactGoodBlock", spec := "fnExactGoodBlock", unfollowed := true, recurses := true, apart := false }
def FnExactGoodBlockSaid : Prop := fnExactGoodBlockRow.holds Try.pinned (OpenSpec.ofChange fnExactGoodBlockSpec)

/-- ITS FALSE NEIGHBOUR: 'it returns false'. Refute it at one input. -/
def fnExactGoodBlockWrong : ChangeSpec := { name := "fnExactGoodBlock", fn := fun _ => fun
  | [d] => { results := [.lit (.bool false)], args := [d] }
  | _ => none }
def FnExactGoodBlockWrongFalsely : Prop := fnExactGoodBlockRow.holds Try.pinned (OpenSpec.ofChange fnExactGoodBlockWrong)

/-- 'laws.FnExactMergeSeries': WHATEVER THE INPUT: true; the input reads as it did. -/
def fnExactMergeSeriesSpec : ChangeSpec := { name := "fnExactMergeSeries", fn := fun _ => fun
  | [d1, d2] => { results := [.lit (.bool true)], args := [d1, d2] }
  | _ => none }
def fnExactMergeSeriesRow : OpenClaim := { program := "ytknlgignjbghkaa", sum := "218b5b9a5c7aff7063af05e6ab9c7623dc29ee9cb0d7d6c3579977d828d55856", func := "loop.example/g00039/laws.FnExactMergeSeries", spec := "fnExactMergeSeries", inPlace := ["slices.overlaps[loop.example/g00039/impl.Series]"], unfollowed := true, recurses := true, apart := false }
def FnExactMergeSeriesSaid : Prop := fnExactMergeSeriesRow.holds Try.pinned (OpenSpec.ofChange fnExactMergeSeriesSpec)

/-- ITS FALSE NEIGHBOUR: 'it returns false'. Refute it at one input. -/
def fnExactMergeSeriesWrong : ChangeSpec := { name := "fnExactMergeSeries", fn := fun _ => fun
  | [d1, d2] => { results := [.lit (.bool false)], args := [d1, d2] }
  | _ => none }
def FnExactMergeSeriesWrongFalsely : Prop := fnExactMergeSeriesRow.holds Try.pinned (OpenSpec.ofChange fnExactMergeSeriesWrong)

/-- 'laws.FnExactJoinLabels': WHATEVER THE INPUT: true; the input reads as it did. -/
def fnExactJoinLabelsSpec : ChangeSpec := { name := "fnExactJoinLabels", fn := fun _ => fun
  | [d1, d2] => { results := [.lit (.bool true)], args := [d1, d2] }
  | _ => none }
def fnExactJoinLabelsRow : OpenClaim := { program := "ytknlgignjbghkaa", sum := "218b5b9a5c7aff7063af05e6ab9c7623dc29ee9cb0d7d6c3579977d828d55856", func := "loop.example/g00039/laws.FnExactJoinLabels", spec := "fnExactJoinLabels", inPlace := ["internal/bytealg.IndexByteString", "internal/bytealg.abigen_runtime_cmpstring"], unfollowed := true, recurses := true, apart := false }
def FnExactJoinLabelsSaid : Prop := fnExactJoinLabelsRow.holds Try.pinned (OpenSpec.ofChange fnExactJoinLabelsSpec)

/-- ITS FALSE NEIGHBOUR: 'it returns false'. Refute it at one input. -/
def fnExactJoinLabelsWrong : ChangeSpec := { name := "fnExactJoinLabels", fn := fun _ => fun
  | [d1, d2] => { results := [.lit (.bool false)], args := [d1, d2] }
  | _ => none }
def FnExactJoinLabelsWrongFalsely : Prop := fnExactJoinLabelsRow.holds Try.pinned (OpenSpec.ofChange fnExactJoinLabelsWrong)

/-- 'laws.FnExactValuesOf': WHATEVER THE INPUT: true; the input reads as it did. -/
def fnExactValuesOfSpec : ChangeSpec := { name := "fnExactValuesOf", fn := fun _ => fun
  | [d1, d2] => { results := [.lit (.bool true)], args := [d1, d2] }
  | _ => none }
def fnExactValuesOfRow : OpenClaim := { program := "ytknlgignjbghkaa", sum := "218b5b9a5c7aff7063af05e6ab9c7623dc29ee9cb0d7d6c3579977d828d55856", func := "loop.example/g00039/laws.FnExactValuesOf", spec := "fnExactValuesOf", recurses := true, apart := false }
def FnExactValuesOfSaid : Prop := fnExactValuesOfRow.holds Try.pinned (OpenSpec.ofChange fnExactValuesOfSpec)

/-- ITS FALSE NEIGHBOUR: 'it returns false'. Refute it at one input. -/
def fnExactValuesOfWrong : ChangeSpec := { name := "fnExactValuesOf", fn := fun _ => fun
  | [d1, d2] => { results := [.lit (.bool false)], args := [d1, d2] }
  | _ => none }
def FnExactValuesOfWrongFalsely : Prop := fnExactValuesOfRow.holds Try.pinned (OpenSpec.ofChange fnExactValuesOfWrong)

/-- 'laws.FnExactCheckpoint': WHATEVER THE INPUT: true; the input reads as it did. -/
def fnExactCheckpointSpec : ChangeSpec := { name := "fnExactCheckpoint", fn := fun _ => fun
  | [d] => { results := [.lit (.bool true)], args := [d] }
  | _ => none }
def fnExactCheckpointRow : OpenClaim := { program := "ytknlgignjbghkaa", sum := "218b5b9a5c7aff7063af05e6ab9c7623dc29ee9cb0d7d6c3579977d828d55856", func := "loop.example/g00039/laws.FnExactCheckpoint", spec := "fnExactCheckpoint", inPlace := ["internal/abi.NoEscape", "internal/bytealg.MakeNoZero"], unfollowed := true, recurses := true, apart := false }
def FnExactCheckpointSaid : Prop := fnExactCheckpointRow.holds Try.pinned (OpenSpec.ofChange fnExactCheckpointSpec)

/-- ITS FALSE NEIGHBOUR: 'it returns false'. Refute it at one input. -/
def fnExactCheckpointWrong : ChangeSpec := { name := "fnExactCheckpoint", fn := fun _ => fun
  | [d] => { results := [.lit (.bool false)], args := [d] }
  | _ => none }
def FnExactCheckpointWrongFalsely : Prop := fnExactCheckpointRow.holds Try.pinned (OpenSpec.ofChange fnExactCheckpointWrong)

/- THE SECOND FORM. 'bulk': how many values and letters a reading holds, each counted each time it is reached (what is shared counts as often as it is met; a slice's spare places count too). A statement '..UptoSaid' is the law's where the arguments, and the package variables that the reading takes, are together of bulk at most 1048576: NARROWER than '..Said'. Prove '..Said' where nothing that the law and all that it calls make is longer than what came in: it says more and counts as full. Else prove '..UptoSaid'. A law counts once. -/
mutual
def uptoBulk {H : Type} : DataW H → Nat
  | .lit (.string bytes) => bytes.length + 1
  | .lit _ => 1
  | .nil => 1
  | .ptr d => uptoBulk d + 1
  | .slice elems spare => uptoBulkAll elems + uptoBulkAll spare + 1
  | .agg parts => uptoBulkAll parts + 1
  | .iface _ d => uptoBulk d + 1
  | .map entries => uptoBulkEntries entries + 1
  | .held _ => 1
def uptoBulkAll {H : Type} : List (DataW H) → Nat
  | [] => 0
  | d :: r => uptoBulk d + uptoBulkAll r
def uptoBulkEntries {H : Type} : List (Lit × DataW H) → Nat
  | [] => 0
  | x :: r => uptoBulkEntry x + uptoBulkEntries r
def uptoBulkEntry {H : Type} : Lit × DataW H → Nat
  | (.string bytes, d) => bytes.length + uptoBulk d + 1
  | (_, d) => uptoBulk d + 1
 end
def uptoSmall : (H : Type) → List (DataW H) → Bool := fun _ ds => decide (uptoBulkAll ds ≤ 1048576)
def OpenSpec.upto (s : _root_.Go.ChangeSpec) : _root_.Go.OpenSpec := { _root_.Go.OpenSpec.ofChange s with cond := some uptoSmall }

/-- 'laws.FnExactGoodBlock', WHERE WHAT IT READS IS OF BULK AT MOST 1048576: true; the input reads as it did. -/
def fnExactGoodBlockUptoRow : OpenClaim := { program := "ytknlgignjbghkaa", sum := "218b5b9a5c7aff7063af05e6ab9c7623dc29ee9cb0d7d6c3579977d828d55856", func := "loop.example/g00039/laws.FnExactGoodBlock", spec := "fnExactGoodBlock", unfollowed := true, recurses := true, apart := false, narrowed := true }
def FnExactGoodBlockUptoSaid : Prop := fnExactGoodBlockUptoRow.holds Try.pinned (OpenSpec.upto fnExactGoodBlockSpec)

/-- 'laws.FnExactMergeSeries', WHERE WHAT IT READS IS OF BULK AT MOST 1048576: true; the input reads as it did. -/
def fnExactMergeSeriesUptoRow : OpenClaim := { program := "ytknlgignjbghkaa", sum := "218b5b9a5c7aff7063af05e6ab9c7623dc29ee9cb0d7d6c3579977d828d55856", func := "loop.example/g00039/laws.FnExactMergeSeries", spec := "fnExactMergeSeries", inPlace := ["slices.overlaps[loop.example/g00039/impl.Series]"], unfollowed := true, recurses := true, apart := false, narrowed := true }
def FnExactMergeSeriesUptoSaid : Prop := fnExactMergeSeriesUptoRow.holds Try.pinned (OpenSpec.upto fnExactMergeSeriesSpec)

/-- 'laws.FnExactJoinLabels', WHERE WHAT IT READS IS OF BULK AT MOST 1048576: true; the input reads as it did. -/
def fnExactJoinLabelsUptoRow : OpenClaim := { program := "ytknlgignjbghkaa", sum := "218b5b9a5c7aff7063af05e6ab9c7623dc29ee9cb0d7d6c3579977d828d55856", func := "loop.example/g00039/laws.FnExactJoinLabels", spec := "fnExactJoinLabels", inPlace := ["internal/bytealg.IndexByteString", "internal/bytealg.abigen_runtime_cmpstring"], unfollowed := true, recurses := true, apart := false, narrowed := true }
def FnExactJoinLabelsUptoSaid : Prop := fnExactJoinLabelsUptoRow.holds Try.pinned (OpenSpec.upto fnExactJoinLabelsSpec)

/-- 'laws.FnExactValuesOf', WHERE WHAT IT READS IS OF BULK AT MOST 1048576: true; the input reads as it did. -/
def fnExactValuesOfUptoRow : OpenClaim := { program := "ytknlgignjbghkaa", sum := "218b5b9a5c7aff7063af05e6ab9c7623dc29ee9cb0d7d6c3579977d828d55856", func := "loop.example/g00039/laws.FnExactValuesOf", spec := "fnExactValuesOf", recurses := true, apart := false, narrowed := true }
def FnExactValuesOfUptoSaid : Prop := fnExactValuesOfUptoRow.holds Try.pinned (OpenSpec.upto fnExactValuesOfSpec)

/-- 'laws.FnExactCheckpoint', WHERE WHAT IT READS IS OF BULK AT MOST 1048576: true; the input reads as it did. -/
def fnExactCheckpointUptoRow : OpenClaim := { program := "ytknlgignjbghkaa", sum := "218b5b9a5c7aff7063af05e6ab9c7623dc29ee9cb0d7d6c3579977d828d55856", func := "loop.example/g00039/laws.FnExactCheckpoint", spec := "fnExactCheckpoint", inPlace := ["internal/abi.NoEscape", "internal/bytealg.MakeNoZero"], unfollowed := true, recurses := true, apart := false, narrowed := true }
def FnExactCheckpointUptoSaid : Prop := fnExactCheckpointUptoRow.holds Try.pinned (OpenSpec.upto fnExactCheckpointSpec)

end Rows
end Go.Proofs.Ytknlgignjbghkaa
