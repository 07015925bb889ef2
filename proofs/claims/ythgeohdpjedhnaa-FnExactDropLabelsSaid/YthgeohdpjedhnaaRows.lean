/-
  No cell of these rows narrows 'for every input' (looked for: loops, veiled, ifaces, maps, wideKeys, modest, calm, conditions, laid).
  DERIVED. THE GIVEN ROWS OF THIS SEAT. 11 by the template 'for every input the law returns true; each argument reads behind the call as it read before'; 0 by the template 'total and deterministic' (their statements: YthgeohdpjedhnaaTotals.lean).
  GIVEN WITH THE SEED: the statements are not yours to turn. If you find one false, say at which input.
  Laid BY PROGRAM, IN A SANDBOX (cutbox-rows.mjs): the forced cells as the released guide's own fill.sh prints them over the translation fb744fa1c6ecbfe0… (all of the seat's roots in one cut). By AI agents, Wed Nov 11 2026. No macro, syntax, notation, axiom, sorry.
-/
import Derived.Test.YthgeohdpjedhnaaChecked
import GoSem.Claim
import GoSem.ClaimJoined
import GoSem.ClaimMapViews
import Derived.JoinedTies
import Derived.KernelRfl
namespace Go.Proofs.Ythgeohdpjedhnaa
/- THE CELL 'sum', in the pinned program and in every row, IS THE sha256 OF THE DUMP (.gsa) THAT YthgeohdpjedhnaaProg.lean LOADS. Nothing in Lean hashes anything: it is a label: what it is worth is what the hold of that sum in a sandbox is worth. -/
noncomputable def Try.pinned : Pinned := { name := "ythgeohdpjedhnaa", sum := "fb744fa1c6ecbfe0ba3b97fee418815f4a7b4153e8bbecab7ecfc469e44db288", checked := Try.checked }
namespace Rows
def none {H : Type} : Left H := { results := [], args := [] }

/-- 'laws.FnExactPatternParts': WHATEVER THE INPUT: true; the input reads as it did. -/
def fnExactPatternPartsSpec : ChangeSpec := { name := "fnExactPatternParts", fn := fun _ => fun
  | [d1, d2] => { results := [.lit (.bool true)], args := [d1, d2] }
  | _ => none }
def fnExactPatternPartsRow : OpenClaim := { program := "ythgeohdpjedhnaa", sum := "fb744fa1c6ecbfe0ba3b97fee418815f4a7b4153e8bbecab7ecfc469e44db288", func := "loop.example/g00039/laws.FnExactPatternParts", spec := "fnExactPatternParts", inPlace := ["internal/bytealg.IndexByteString"], unfollowed := true, recurses := true, apart := false }
def FnExactPatternPartsSaid : Prop := fnExactPatternPartsRow.holds Try.pinned (OpenSpec.ofChange fnExactPatternPartsSpec)

/-- ITS FALSE NEIGHBOUR: 'it returns false'. Refute it at one input. -/
def fnExactPatternPartsWrong : ChangeSpec := { name := "fnExactPatternParts", fn := fun _ => fun
  | [d1, d2] => { results := [.lit (.bool false)], args := [d1, d2] }
  | _ => none }
def FnExactPatternPartsWrongFalsely : Prop := fnExactPatternPartsRow.holds Try.pinned (OpenSpec.ofChange fnExactPatternPartsWrong)

/-- 'laws.FnExactWithLabel': WHATEVER THE INPUT: true; the input reads as it did. -/
def fnExactWithLabelSpec : ChangeSpec := { name := "fnExactWithLabel", fn := fun _ => fun
  | [d1, d2, d3] => { results := [.lit (.bool true)], args := [d1, d2, d3] }
  | _ => none }
def fnExactWithLabelRow : OpenClaim := { program := "ythgeohdpjedhnaa", sum := "fb744fa1c6ecbfe0ba3b97fee418815f4a7b4153e8bbecab7ecfc469e44db288", func := "loop.example/g00039/laws.FnExactWithLabel", spec := "fnExactWithLabel", apart := false }
def FnExactWithLabelSaid : Prop := fnExactWithLabelRow.holds Try.pinned (OpenSpec.ofChange fnExactWithLabelSpec)

/-- ITS FALSE NEIGHBOUR: 'it returns false'. Refute it at one input. -/
def fnExactWithLabelWrong : ChangeSpec := { name := "fnExactWithLabel", fn := fun _ => fun
  | [d1, d2, d3] => { results := [.lit (.bool false)], args := [d1, d2, d3] }
  | _ => none }
def FnExactWithLabelWrongFalsely : Prop := fnExactWithLabelRow.holds Try.pinned (OpenSpec.ofChange fnExactWithLabelWrong)

/-- 'laws.FnExactLabelsText': WHATEVER THE INPUT: true; the input reads as it did. -/
def fnExactLabelsTextSpec : ChangeSpec := { name := "fnExactLabelsText", fn := fun _ => fun
  | [d] => { results := [.lit (.bool true)], args := [d] }
  | _ => none }
def fnExactLabelsTextRow : OpenClaim := { program := "ythgeohdpjedhnaa", sum := "fb744fa1c6ecbfe0ba3b97fee418815f4a7b4153e8bbecab7ecfc469e44db288", func := "loop.example/g00039/laws.FnExactLabelsText", spec := "fnExactLabelsText", inPlace := ["internal/abi.NoEscape", "internal/bytealg.MakeNoZero"], apart := false }
def FnExactLabelsTextSaid : Prop := fnExactLabelsTextRow.holds Try.pinned (OpenSpec.ofChange fnExactLabelsTextSpec)

/-- ITS FALSE NEIGHBOUR: 'it returns false'. Refute it at one input. -/
def fnExactLabelsTextWrong : ChangeSpec := { name := "fnExactLabelsText", fn := fun _ => fun
  | [d] => { results := [.lit (.bool false)], args := [d] }
  | _ => none }
def FnExactLabelsTextWrongFalsely : Prop := fnExactLabelsTextRow.holds Try.pinned (OpenSpec.ofChange fnExactLabelsTextWrong)

/-- 'laws.FnExactDropLabels': WHATEVER THE INPUT: true; the input reads as it did. -/
def fnExactDropLabelsSpec : ChangeSpec := { name := "fnExactDropLabels", fn := fun _ => fun
  | [d1, d2] => { results := [.lit (.bool true)], args := [d1, d2] }
  | _ => none }
def fnExactDropLabelsRow : OpenClaim := { program := "ythgeohdpjedhnaa", sum := "fb744fa1c6ecbfe0ba3b97fee418815f4a7b4153e8bbecab7ecfc469e44db288", func := "loop.example/g00039/laws.FnExactDropLabels", spec := "fnExactDropLabels", unfollowed := true, recurses := true, apart := false }
def FnExactDropLabelsSaid : Prop := fnExactDropLabelsRow.holds Try.pinned (OpenSpec.ofChange fnExactDropLabelsSpec)

/-- ITS FALSE NEIGHBOUR: 'it returns false'. Refute it at one input. -/
def fnExactDropLabelsWrong : ChangeSpec := { name := "fnExactDropLabels", fn := fun _ => fun
  | [d1, d2] => { results := [.lit (.bool false)], args := [d1, d2] }
  | _ => none }
def FnExactDropLabelsWrongFalsely : Prop := fnExactDropLabelsRow.holds Try.pinned (OpenSpec.ofChange fnExactDropLabelsWrong)

/-- 'laws.FnExactKeepLabels': WHATEVER THE INPUT: true; the input reads as it did. -/
def fnExactKeepLabelsSpec : ChangeSpec := { name := "fnExactKeepLabels", fn := fun _ => fun
  | [d1, d2] => { results := [.lit (.bool true)], args := [d1, d2] }
  | _ => none }
def fnExactKeepLabelsRow : OpenClaim := { program := "ythgeohdpjedhnaa", sum := "fb744fa1c6ecbfe0ba3b97fee418815f4a7b4153e8bbecab7ecfc469e44db288", func := "loop.example/g00039/laws.FnExactKeepLabels", spec := "fnExactKeepLabels", unfollowed := true, recurses := true, apart := false }
def FnExactKeepLabelsSaid : Prop := fnExactKeepLabelsRow.holds Try.pinned (OpenSpec.ofChange fnExactKeepLabelsSpec)

/-- ITS FALSE NEIGHBOUR: 'it returns false'. Refute it at one input. -/
def fnExactKeepLabelsWrong : ChangeSpec := { name := "fnExactKeepLabels", fn := fun _ => fun
  | [d1, d2] => { results := [.lit (.bool false)], args := [d1, d2] }
  | _ => none }
def FnExactKeepLabelsWrongFalsely : Prop := fnExactKeepLabelsRow.holds Try.pinned (OpenSpec.ofChange fnExactKeepLabelsWrong)

/-- 'laws.FnExactHashLabels': WHATEVER THE INPUT: true; the input reads as it did. -/
def fnExactHashLabelsSpec : ChangeSpec := { name := "fnExactHashLabels", fn := fun _ => fun
  | [d] => { results := [.lit (.bool true)], args := [d] }
  | _ => none }
def fnExactHashLabelsRow : OpenClaim := { program := "ythgeohdpjedhnaa", sum := "fb744fa1c6ecbfe0ba3b97fee418815f4a7b4153e8bbecab7ecfc469e44db288", func := "loop.example/g00039/laws.FnExactHashLabels", spec := "fnExactHashLabels", inPlace := ["internal/abi.NoEscape", "internal/bytealg.MakeNoZero"], apart := false }
def FnExactHashLabelsSaid : Prop := fnExactHashLabelsRow.holds Try.pinned (OpenSpec.ofChange fnExactHashLabelsSpec)

/-- ITS FALSE NEIGHBOUR: 'it returns false'. Refute it at one input. -/
def fnExactHashLabelsWrong : ChangeSpec := { name := "fnExactHashLabels", fn := fun _ => fun
  | [d] => { results := [.lit (.bool false)], args := [d] }
  | _ => none }
def FnExactHashLabelsWrongFalsely : Prop := fnExactHashLabelsRow.holds Try.pinned (OpenSpec.ofChange fnExactHashLabelsWrong)

/-- 'laws.FnExactGoodRelabel': WHATEVER THE INPUT: true; the input reads as it did. -/
def fnExactGoodRelabelSpec : ChangeSpec := { name := "fnExactGoodRelabel", fn := fun _ => fun
  | [d] => { results := [.lit (.bool true)], args := [d] }
  | _ => none }
def fnExactGoodRelabelRow : OpenClaim := { program := "ythgeohdpjedhnaa", sum := "fb744fa1c6ecbfe0ba3b97fee418815f4a7b4153e8bbecab7ecfc469e44db288", func := "loop.example/g00039/laws.FnExactGoodRelabel", spec := "fnExactGoodRelabel", inPlace := ["internal/bytealg.IndexByteString"], unfollowed := true, recurses := true, apart := false }
def FnExactGoodRelabelSaid : Prop := fnExactGoodRelabelRow.holds Try.pinned (OpenSpec.ofChange fnExactGoodRelabelSpec)

/-- ITS FALSE NEIGHBOUR: 'it returns false'. Refute it at one input. -/
def fnExactGoodRelabelWrong : ChangeSpec := { name := "fnExactGoodRelabel", fn := fun _ => fun
  | [d] => { results := [.lit (.bool false)], args := [d] }
  | _ => none }
def FnExactGoodRelabelWrongFalsely : Prop := fnExactGoodRelabelRow.holds Try.pinned (OpenSpec.ofChange fnExactGoodRelabelWrong)

/-- 'laws.FnExactGoodSeries': WHATEVER THE INPUT: true; the input reads as it did. -/
def fnExactGoodSeriesSpec : ChangeSpec := { name := "fnExactGoodSeries", fn := fun _ => fun
  | [d] => { results := [.lit (.bool true)], args := [d] }
  | _ => none }
def fnExactGoodSeriesRow : OpenClaim := { program := "ythgeohdpjedhnaa", sum := "fb744fa1c6ecbfe0ba3b97fee418815f4a7b4153e8bbecab7ecfc469e44db288", func := "loop.example/g00039/laws.FnExactGoodSeries", spec := "fnExactGoodSeries", apart := false }
def FnExactGoodSeriesSaid : Prop := fnExactGoodSeriesRow.holds Try.pinned (OpenSpec.ofChange fnExactGoodSeriesSpec)

/-- ITS FALSE NEIGHBOUR: 'it returns false'. Refute it at one input. -/
def fnExactGoodSeriesWrong : ChangeSpec := { name := "fnExactGoodSeries", fn := fun _ => fun
  | [d] => { results := [.lit (.bool false)], args := [d] }
  | _ => none }
def FnExactGoodSeriesWrongFalsely : Prop := fnExactGoodSeriesRow.holds Try.pinned (OpenSpec.ofChange fnExactGoodSeriesWrong)

/-- 'laws.FnExactReadLabels': WHATEVER THE INPUT: true; the input reads as it did. -/
def fnExactReadLabelsSpec : ChangeSpec := { name := "fnExactReadLabels", fn := fun _ => fun
  | [d] => { results := [.lit (.bool true)], args := [d] }
  | _ => none }
def fnExactReadLabelsRow : OpenClaim := { program := "ythgeohdpjedhnaa", sum := "fb744fa1c6ecbfe0ba3b97fee418815f4a7b4153e8bbecab7ecfc469e44db288", func := "loop.example/g00039/laws.FnExactReadLabels", spec := "fnExactReadLabels", inPlace := ["internal/abi.NoEscape", "internal/bytealg.MakeNoZero"], apart := false }
def FnExactReadLabelsSaid : Prop := fnExactReadLabelsRow.holds Try.pinned (OpenSpec.ofChange fnExactReadLabelsSpec)

/-- ITS FALSE NEIGHBOUR: 'it returns false'. Refute it at one input. -/
def fnExactReadLabelsWrong : ChangeSpec := { name := "fnExactReadLabels", fn := fun _ => fun
  | [d] => { results := [.lit (.bool false)], args := [d] }
  | _ => none }
def FnExactReadLabelsWrongFalsely : Prop := fnExactReadLabelsRow.holds Try.pinned (OpenSpec.ofChange fnExactReadLabelsWrong)

/-- 'laws.FnExactGoodHead': WHATEVER THE INPUT: true; the input reads as it did. -/
def fnExactGoodHeadSpec : ChangeSpec := { name := "fnExactGoodHead", fn := fun _ => fun
  | [d] => { results := [.lit (.bool true)], args := [d] }
  | _ => none }
def fnExactGoodHeadRow : OpenClaim := { program := "ythgeohdpjedhnaa", sum := "fb744fa1c6ecbfe0ba3b97fee418815f4a7b4153e8bbecab7ecfc469e44db288", func := "loop.example/g00039/laws.FnExactGoodHead", spec := "fnExactGoodHead", apart := false }
def FnExactGoodHeadSaid : Prop := fnExactGoodHeadRow.holds Try.pinned (OpenSpec.ofChange fnExactGoodHeadSpec)

/-- ITS FALSE NEIGHBOUR: 'it returns false'. Refute it at one input. -/
def fnExactGoodHeadWrong : ChangeSpec := { name := "fnExactGoodHead", fn := fun _ => fun
  | [d] => { results := [.lit (.bool false)], args := [d] }
  | _ => none }
def FnExactGoodHeadWrongFalsely : Prop := fnExactGoodHeadRow.holds Try.pinned (OpenSpec.ofChange fnExactGoodHeadWrong)

/-- 'laws.FnExactFits': WHATEVER THE INPUT: true; the input reads as it did. -/
def fnExactFitsSpec : ChangeSpec := { name := "fnExactFits", fn := fun _ => fun
  | [d1, d2] => { results := [.lit (.bool true)], args := [d1, d2] }
  | _ => none }
def fnExactFitsRow : OpenClaim := { program := "ythgeohdpjedhnaa", sum := "fb744fa1c6ecbfe0ba3b97fee418815f4a7b4153e8bbecab7ecfc469e44db288", func := "loop.example/g00039/laws.FnExactFits", spec := "fnExactFits", inPlace := ["internal/bytealg.IndexByteString"], unfollowed := true, recurses := true, apart := false }
def FnExactFitsSaid : Prop := fnExactFitsRow.holds Try.pinned (OpenSpec.ofChange fnExactFitsSpec)

/-- ITS FALSE NEIGHBOUR: 'it returns false'. Refute it at one input. -/
def fnExactFitsWrong : ChangeSpec := { name := "fnExactFits", fn := fun _ => fun
  | [d1, d2] => { results := [.lit (.bool false)], args := [d1, d2] }
  | _ => none }
def FnExactFitsWrongFalsely : Prop := fnExactFitsRow.holds Try.pinned (OpenSpec.ofChange fnExactFitsWrong)

/- THE SECOND FORM. 'bulk': how many values and letters a reading holds, each counted each time it is reached (what is shared counts as often as it is met; a slice's spare places count too). A statement '..UptoSaid' is the law's where the arguments, and the package variables that the reading takes, are together of bulk at most 1048576: NARROWER than '..Said'. Prove '..Said' where nothing that the law and all that it calls make is longer than what came in: it says more and counts as full. Else prove '..UptoSaid'. A law counts once. -/
mutual
def uptoBulk {H : Type} : DataW H → Nat
  | .lit (.string bytes) => bytes.length + 1
  | .lit _ => 1
  | .nil => 1
  | .ptr d => uptoBulk d + 1
  | .slice elems spare => uptoBulkAll elems + uptoBulkAll spare + 1
  | .agg parts => uptoBulkAll parts + 1
  | .iface _ d => uptoBulk d + 1
  | .map entries => uptoBulkEntries entries + 1
  | .held _ => 1
def uptoBulkAll {H : Type} : List (DataW H) → Nat
  | [] => 0
  | d :: r => uptoBulk d + uptoBulkAll r
def uptoBulkEntries {H : Type} : List (Lit × DataW H) → Nat
  | [] => 0
  | x :: r => uptoBulkEntry x + uptoBulkEntries r
def uptoBulkEntry {H : Type} : Lit × DataW H → Nat
  | (.string bytes, d) => bytes.length + uptoBulk d + 1
  | (_, d) => uptoBulk d + 1
 end
def uptoSmall : (H : Type) → List (DataW H) → Bool := fun _ ds => decide (uptoBulkAll ds ≤ 1048576)
def OpenSpec.upto (s : _root_.Go.ChangeSpec) : _root_.Go.OpenSpec := { _root_.Go.OpenSpec.ofChange s with cond := some uptoSmall }

/-- 'laws.FnExactPatternParts', WHERE WHAT IT READS IS OF BULK AT MOST 1048576: true; the input reads as it did. -/
def fnExactPatternPartsUptoRow : OpenClaim := { program := "ythgeohdpjedhnaa", sum := "fb744fa1c6ecbfe0ba3b97fee418815f4a7b4153e8bbecab7ecfc469e44db288", func := "loop.example/g00039/laws.FnExactPatternParts", spec := "fnExactPatternParts", inPlace := ["internal/bytealg.IndexByteString"], unfollowed := true, recurses := true, apart := false, narrowed := true }
def FnExactPatternPartsUptoSaid : Prop := fnExactPatternPartsUptoRow.holds Try.pinned (OpenSpec.upto fnExactPatternPartsSpec)

/-- 'laws.FnExactWithLabel', WHERE WHAT IT READS IS OF BULK AT MOST 1048576: true; the input reads as it did. -/
def fnExactWithLabelUptoRow : OpenClaim := { program := "ythgeohdpjedhnaa", sum := "fb744fa1c6ecbfe0ba3b97fee418815f4a7b4153e8bbecab7ecfc469e44db288", func := "loop.example/g00039/laws.FnExactWithLabel", spec := "fnExactWithLabel", apart := false, narrowed := true }
def FnExactWithLabelUptoSaid : Prop := fnExactWithLabelUptoRow.holds Try.pinned (OpenSpec.upto fnExactWithLabelSpec)

/-- 'laws.FnExactLabelsText', WHERE WHAT IT READS IS OF BULK AT MOST 1048576: true; the input reads as it did. -/
def fnExactLabelsTextUptoRow : OpenClaim := { program := "ythgeohdpjedhnaa", sum := "fb744fa1c6ecbfe0ba3b97fee418815f4a7b4153e8bbecab7ecfc469e44db288", func := "loop.example/g00039/laws.FnExactLabelsText", spec := "fnExactLabelsText", inPlace := ["internal/abi.NoEscape", "internal/bytealg.MakeNoZero"], apart := false, narrowed := true }
def FnExactLabelsTextUptoSaid : Prop := fnExactLabelsTextUptoRow.holds Try.pinned (OpenSpec.upto fnExactLabelsTextSpec)

/-- 'laws.FnExactDropLabels', WHERE WHAT IT READS IS OF BULK AT MOST 1048576: true; the input reads as it did. -/
def fnExactDropLabelsUptoRow : OpenClaim := { program := "ythgeohdpjedhnaa", sum := "fb744fa1c6ecbfe0ba3b97fee418815f4a7b4153e8bbecab7ecfc469e44db288", func := "loop.example/g00039/laws.FnExactDropLabels", spec := "fnExactDropLabels", unfollowed := true, recurses := true, apart := false, narrowed := true }
def FnExactDropLabelsUptoSaid : Prop := fnExactDropLabelsUptoRow.holds Try.pinned (OpenSpec.upto fnExactDropLabelsSpec)

/-- 'laws.FnExactKeepLabels', WHERE WHAT IT READS IS OF BULK AT MOST 1048576: true; the input reads as it did. -/
def fnExactKeepLabelsUptoRow : OpenClaim := { program := "ythgeohdpjedhnaa", sum := "fb744fa1c6ecbfe0ba3b97fee418815f4a7b4153e8bbecab7ecfc469e44db288", func := "loop.example/g00039/laws.FnExactKeepLabels", spec := "fnExactKeepLabels", unfollowed := true, recurses := true, apart := false, narrowed := true }
def FnExactKeepLabelsUptoSaid : Prop := fnExactKeepLabelsUptoRow.holds Try.pinned (OpenSpec.upto fnExactKeepLabelsSpec)

/-- 'laws.FnExactHashLabels', WHERE WHAT IT READS IS OF BULK AT MOST 1048576: true; the input reads as it did. -/
def fnExactHashLabelsUptoRow : OpenClaim := { program := "ythgeohdpjedhnaa", sum := "fb744fa1c6ecbfe0ba3b97fee418815f4a7b4153e8bbecab7ecfc469e44db288", func := "loop.example/g00039/laws.FnExactHashLabels", spec := "fnExactHashLabels", inPlace := ["internal/abi.NoEscape", "internal/bytealg.MakeNoZero"], apart := false, narrowed := true }
def FnExactHashLabelsUptoSaid : Prop := fnExactHashLabelsUptoRow.holds Try.pinned (OpenSpec.upto fnExactHashLabelsSpec)

/-- 'laws.FnExactGoodRelabel', WHERE WHAT IT READS IS OF BULK AT MOST 1048576: true; the input reads as it did. -/
def fnExactGoodRelabelUptoRow : OpenClaim := { program := "ythgeohdpjedhnaa", sum := "fb744fa1c6ecbfe0ba3b97fee418815f4a7b4153e8bbecab7ecfc469e44db288", func := "loop.example/g00039/laws.FnExactGoodRelabel", spec := "fnExactGoodRelabel", inPlace := ["internal/bytealg.IndexByteString"], unfollowed := true, recurses := true, apart := false, narrowed := true }
def FnExactGoodRelabelUptoSaid : Prop := fnExactGoodRelabelUptoRow.holds Try.pinned (OpenSpec.upto fnExactGoodRelabelSpec)

/-- 'laws.FnExactGoodSeries', WHERE WHAT IT READS IS OF BULK AT MOST 1048576: true; the input reads as it did. -/
def fnExactGoodSeriesUptoRow : OpenClaim := { program := "ythgeohdpjedhnaa", sum := "fb744fa1c6ecbfe0ba3b97fee418815f4a7b4153e8bbecab7ecfc469e44db288", func := "loop.example/g00039/laws.FnExactGoodSeries", spec := "fnExactGoodSeries", apart := false, narrowed := true }
def FnExactGoodSeriesUptoSaid : Prop := fnExactGoodSeriesUptoRow.holds Try.pinned (OpenSpec.upto fnExactGoodSeriesSpec)

/-- 'laws.FnExactReadLabels', WHERE WHAT IT READS IS OF BULK AT MOST 1048576: true; the input reads as it did. -/
def fnExactReadLabelsUptoRow : OpenClaim := { program := "ythgeohdpjedhnaa", sum := "fb744fa1c6ecbfe0ba3b97fee418815f4a7b4153e8bbecab7ecfc469e44db288", func := "loop.example/g00039/laws.FnExactReadLabels", spec := "fnExactReadLabels", inPlace := ["internal/abi.NoEscape", "internal/bytealg.MakeNoZero"], apart := false, narrowed := true }
def FnExactReadLabelsUptoSaid : Prop := fnExactReadLabelsUptoRow.holds Try.pinned (OpenSpec.upto fnExactReadLabelsSpec)

/-- 'laws.FnExactGoodHead', WHERE WHAT IT READS IS OF BULK AT MOST 1048576: true; the input reads as it did. -/
def fnExactGoodHeadUptoRow : OpenClaim := { program := "ythgeohdpjedhnaa", sum := "fb744fa1c6ecbfe0ba3b97fee418815f4a7b4153e8bbecab7ecfc469e44db288", func := "loop.example/g00039/laws.FnExactGoodHead", spec := "fnExactGoodHead", apart := false, narrowed := true }
def FnExactGoodHeadUptoSaid : Prop := fnExactGoodHeadUptoRow.holds Try.pinned (OpenSpec.upto fnExactGoodHeadSpec)

/-- 'laws.FnExactFits', WHERE WHAT IT READS IS OF BULK AT MOST 1048576: true; the input reads as it did. -/
def fnExactFitsUptoRow : OpenClaim := { program := "ythgeohdpjedhnaa", sum := "fb744fa1c6ecbfe0ba3b97fee418815f4a7b4153e8bbecab7ecfc469e44db288", func := "loop.example/g00039/laws.FnExactFits", spec := "fnExactFits", inPlace := ["internal/bytealg.IndexByteString"], unfollowed := true, recurses := true, apart := false, narrowed := true }
def FnExactFitsUptoSaid : Prop := fnExactFitsUptoRow.holds Try.pinned (OpenSpec.upto fnExactFitsSpec)

end Rows
end Go.Proofs.Ythgeohdpjedhnaa
