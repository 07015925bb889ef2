/-
  No cell of these rows narrows 'for every input' (looked for: loops, veiled, ifaces, maps, wideKeys, modest, calm, conditions, laid).
  DERIVED. THE GIVEN ROWS OF THIS SEAT. 12 by the template 'for every input the law returns true; each argument reads behind the call as it read before'; 0 by the template 'total and deterministic' (their statements: YtjapdjkckhcelaaTotals.lean).
  GIVEN WITH THE SEED: the statements are not yours to turn. If you find one false, say at which input.
  Laid BY PROGRAM, IN A SANDBOX (cutbox-rows.mjs): the forced cells as the released guide's own fill.sh prints them over the translation b91ff08e95265946… (all of the seat's roots in one cut). By AI agents, Wed Nov 11 2026. No macro, syntax, notation, axiom, sorry.
-/
import Derived.Test.YtjapdjkckhcelaaChecked
import GoSem.Claim
import GoSem.ClaimJoined
import GoSem.ClaimMapViews
import Derived.JoinedTies
import Derived.KernelRfl
namespace Go.Proofs.Ytjapdjkckhcelaa
/- THE CELL 'sum', in the pinned program and in every row, IS THE sha256 OF THE DUMP (.gsa) THAT YtjapdjkckhcelaaProg.lean LOADS. Nothing in Lean hashes anything: it is a label: what it is worth is what the hold of that sum in a sandbox is worth. -/
noncomputable def Try.pinned : Pinned := { name := "ytjapdjkckhcelaa", sum := "b91ff08e9526594633d6f5a10cdfdd86ae87c294a954d07513607ca4dd98e7d0", checked := Try.checked }
namespace Rows
def none {H : Type} : Left H := { results := [], args := [] }

/-- 'laws.FnExactTakeBits': WHATEVER THE INPUT: true; the input reads as it did. -/
def fnExactTakeBitsSpec : ChangeSpec := { name := "fnExactTakeBits", fn := fun _ => fun
  | [d1, d2, d3] => { results := [.lit (.bool true)], args := [d1, d2, d3] }
  | _ => none }
def fnExactTakeBitsRow : OpenClaim := { program := "ytjapdjkckhcelaa", sum := "b91ff08e9526594633d6f5a10cdfdd86ae87c294a954d07513607ca4dd98e7d0", func := "loop.example/g00039/laws.FnExactTakeBits", spec := "fnExactTakeBits", apart := false }
def FnExactTakeBitsSaid : Prop := fnExactTakeBitsRow.holds Try.pinned (OpenSpec.ofChange fnExactTakeBitsSpec)

/-- ITS FALSE NEIGHBOUR: 'it returns false'. Refute it at one input. -/
def fnExactTakeBitsWrong : ChangeSpec := { name := "fnExactTakeBits", fn := fun _ => fun
  | [d1, d2, d3] => { results := [.lit (.bool false)], args := [d1, d2, d3] }
  | _ => none }
def FnExactTakeBitsWrongFalsely : Prop := fnExactTakeBitsRow.holds Try.pinned (OpenSpec.ofChange fnExactTakeBitsWrong)

/-- 'laws.FnExactAddBits': WHATEVER THE INPUT: true; the input reads as it did. -/
def fnExactAddBitsSpec : ChangeSpec := { name := "fnExactAddBits", fn := fun _ => fun
  | [d1, d2, d3] => { results := [.lit (.bool true)], args := [d1, d2, d3] }
  | _ => none }
def fnExactAddBitsRow : OpenClaim := { program := "ytjapdjkckhcelaa", sum := "b91ff08e9526594633d6f5a10cdfdd86ae87c294a954d07513607ca4dd98e7d0", func := "loop.example/g00039/laws.FnExactAddBits", spec := "fnExactAddBits", apart := false }
def FnExactAddBitsSaid : Prop := fnExactAddBitsRow.holds Try.pinned (OpenSpec.ofChange fnExactAddBitsSpec)

/-- ITS FALSE NEIGHBOUR: 'it returns false'. Refute it at one input. -/
def fnExactAddBitsWrong : ChangeSpec := { name := "fnExactAddBits", fn := fun _ => fun
  | [d1, d2, d3] => { results := [.lit (.bool false)], args := [d1, d2, d3] }
  | _ => none }
def FnExactAddBitsWrongFalsely : Prop := fnExactAddBitsRow.holds Try.pinned (OpenSpec.ofChange fnExactAddBitsWrong)

/-- 'laws.FnExactSampleAt': WHATEVER THE INPUT: true; the input reads as it did. -/
def fnExactSampleAtSpec : ChangeSpec := { name := "fnExactSampleAt", fn := fun _ => fun
  | [d1, d2, d3] => { results := [.lit (.bool true)], args := [d1, d2, d3] }
  | _ => none }
def fnExactSampleAtRow : OpenClaim := { program := "ytjapdjkckhcelaa", sum := "b91ff08e9526594633d6f5a10cdfdd86ae87c294a954d07513607ca4dd98e7d0", func := "loop.example/g00039/laws.FnExactSampleAt", spec := "fnExactSampleAt", unfollowed := true, recurses := true, apart := false }
def FnExactSampleAtSaid : Prop := fnExactSampleAtRow.holds Try.pinned (OpenSpec.ofChange fnExactSampleAtSpec)

/-- ITS FALSE NEIGHBOUR: 'it returns false'. Refute it at one input. -/
def fnExactSampleAtWrong : ChangeSpec := { name := "fnExactSampleAt", fn := fun _ => fun
  | [d1, d2, d3] => { results := [.lit (.bool false)], args := [d1, d2, d3] }
  | _ => none }
def FnExactSampleAtWrongFalsely : Prop := fnExactSampleAtRow.holds Try.pinned (OpenSpec.ofChange fnExactSampleAtWrong)

/-- 'laws.FnExactCutSamples': WHATEVER THE INPUT: true; the input reads as it did. -/
def fnExactCutSamplesSpec : ChangeSpec := { name := "fnExactCutSamples", fn := fun _ => fun
  | [d1, d2, d3] => { results := [.lit (.bool true)], args := [d1, d2, d3] }
  | _ => none }
def fnExactCutSamplesRow : OpenClaim := { program := "ytjapdjkckhcelaa", sum := "b91ff08e9526594633d6f5a10cdfdd86ae87c294a954d07513607ca4dd98e7d0", func := "loop.example/g00039/laws.FnExactCutSamples", spec := "fnExactCutSamples", unfollowed := true, recurses := true, apart := false }
def FnExactCutSamplesSaid : Prop := fnExactCutSamplesRow.holds Try.pinned (OpenSpec.ofChange fnExactCutSamplesSpec)

/-- ITS FALSE NEIGHBOUR: 'it returns false'. Refute it at one input. -/
def fnExactCutSamplesWrong : ChangeSpec := { name := "fnExactCutSamples", fn := fun _ => fun
  | [d1, d2, d3] => { results := [.lit (.bool false)], args := [d1, d2, d3] }
  | _ => none }
def FnExactCutSamplesWrongFalsely : Prop := fnExactCutSamplesRow.holds Try.pinned (OpenSpec.ofChange fnExactCutSamplesWrong)

/-- 'laws.FnExactMergeSamples': WHATEVER THE INPUT: true; the input reads as it did. -/
def fnExactMergeSamplesSpec : ChangeSpec := { name := "fnExactMergeSamples", fn := fun _ => fun
  | [d1, d2] => { results := [.lit (.bool true)], args := [d1, d2] }
  | _ => none }
def fnExactMergeSamplesRow : OpenClaim := { program := "ytjapdjkckhcelaa", sum := "b91ff08e9526594633d6f5a10cdfdd86ae87c294a954d07513607ca4dd98e7d0", func := "loop.example/g00039/laws.FnExactMergeSamples", spec := "fnExactMergeSamples", apart := false }
def FnExactMergeSamplesSaid : Prop := fnExactMergeSamplesRow.holds Try.pinned (OpenSpec.ofChange fnExactMergeSamplesSpec)

/-- ITS FALSE NEIGHBOUR: 'it returns false'. Refute it at one input. -/
def fnExactMergeSamplesWrong : ChangeSpec := { name := "fnExactMergeSamples", fn := fun _ => fun
  | [d1, d2] => { results := [.lit (.bool false)], args := [d1, d2] }
  | _ => none }
def FnExactMergeSamplesWrongFalsely : Prop := fnExactMergeSamplesRow.holds Try.pinned (OpenSpec.ofChange fnExactMergeSamplesWrong)

/-- 'laws.FnExactFillValue': WHATEVER THE INPUT: true; the input reads as it did. -/
def fnExactFillValueSpec : ChangeSpec := { name := "fnExactFillValue", fn := fun _ => fun
  | [d1, d2] => { results := [.lit (.bool true)], args := [d1, d2] }
  | _ => none }
def fnExactFillValueRow : OpenClaim := { program := "ytjapdjkckhcelaa", sum := "b91ff08e9526594633d6f5a10cdfdd86ae87c294a954d07513607ca4dd98e7d0", func := "loop.example/g00039/laws.FnExactFillValue", spec := "fnExactFillValue", inPlace := ["internal/abi.NoEscape"], apart := false }
def FnExactFillValueSaid : Prop := fnExactFillValueRow.holds Try.pinned (OpenSpec.ofChange fnExactFillValueSpec)

/-- ITS FALSE NEIGHBOUR: 'it returns false'. Refute it at one input. -/
def fnExactFillValueWrong : ChangeSpec := { name := "fnExactFillValue", fn := fun _ => fun
  | [d1, d2] => { results := [.lit (.bool false)], args := [d1, d2] }
  | _ => none }
def FnExactFillValueWrongFalsely : Prop := fnExactFillValueRow.holds Try.pinned (OpenSpec.ofChange fnExactFillValueWrong)

/-- 'laws.FnExactGoodLabels': WHATEVER THE INPUT: true; the input reads as it did. -/
def fnExactGoodLabelsSpec : ChangeSpec := { name := "fnExactGoodLabels", fn := fun _ => fun
  | [d] => { results := [.lit (.bool true)], args := [d] }
  | _ => none }
def fnExactGoodLabelsRow : OpenClaim := { program := "ytjapdjkckhcelaa", sum := "b91ff08e9526594633d6f5a10cdfdd86ae87c294a954d07513607ca4dd98e7d0", func := "loop.example/g00039/laws.FnExactGoodLabels", spec := "fnExactGoodLabels", apart := false }
def FnExactGoodLabelsSaid : Prop := fnExactGoodLabelsRow.holds Try.pinned (OpenSpec.ofChange fnExactGoodLabelsSpec)

/-- ITS FALSE NEIGHBOUR: 'it returns false'. Refute it at one input. -/
def fnExactGoodLabelsWrong : ChangeSpec := { name := "fnExactGoodLabels", fn := fun _ => fun
  | [d] => { results := [.lit (.bool false)], args := [d] }
  | _ => none }
def FnExactGoodLabelsWrongFalsely : Prop := fnExactGoodLabelsRow.holds Try.pinned (OpenSpec.ofChange fnExactGoodLabelsWrong)

/-- 'laws.FnExactPatternFits': WHATEVER THE INPUT: true; the input reads as it did. -/
def fnExactPatternFitsSpec : ChangeSpec := { name := "fnExactPatternFits", fn := fun _ => fun
  | [d1, d2] => { results := [.lit (.bool true)], args := [d1, d2] }
  | _ => none }
def fnExactPatternFitsRow : OpenClaim := { program := "ytjapdjkckhcelaa", sum := "b91ff08e9526594633d6f5a10cdfdd86ae87c294a954d07513607ca4dd98e7d0", func := "loop.example/g00039/laws.FnExactPatternFits", spec := "fnExactPatternFits", inPlace := ["internal/bytealg.IndexByteString"], unfollowed := true, recurses := true, apart := false }
def FnExactPatternFitsSaid : Prop := fnExactPatternFitsRow.holds Try.pinned (OpenSpec.ofChange fnExactPatternFitsSpec)

/-- ITS FALSE NEIGHBOUR: 'it returns false'. Refute it at one input. -/
def fnExactPatternFitsWrong : ChangeSpec := { name := "fnExactPatternFits", fn := fun _ => fun
  | [d1, d2] => { results := [.lit (.bool false)], args := [d1, d2] }
  | _ => none }
def FnExactPatternFitsWrongFalsely : Prop := fnExactPatternFitsRow.holds Try.pinned (OpenSpec.ofChange fnExactPatternFitsWrong)

/-- 'laws.FnExactValueOf': WHATEVER THE INPUT: true; the input reads as it did. -/
def fnExactValueOfSpec : ChangeSpec := { name := "fnExactValueOf", fn := fun _ => fun
  | [d1, d2] => { results := [.lit (.bool true)], args := [d1, d2] }
  | _ => none }
def fnExactValueOfRow : OpenClaim := { program := "ytjapdjkckhcelaa", sum := "b91ff08e9526594633d6f5a10cdfdd86ae87c294a954d07513607ca4dd98e7d0", func := "loop.example/g00039/laws.FnExactValueOf", spec := "fnExactValueOf", apart := false }
def FnExactValueOfSaid : Prop := fnExactValueOfRow.holds Try.pinned (OpenSpec.ofChange fnExactValueOfSpec)

/-- ITS FALSE NEIGHBOUR: 'it returns false'. Refute it at one input. -/
def fnExactValueOfWrong : ChangeSpec := { name := "fnExactValueOf", fn := fun _ => fun
  | [d1, d2] => { results := [.lit (.bool false)], args := [d1, d2] }
  | _ => none }
def FnExactValueOfWrongFalsely : Prop := fnExactValueOfRow.holds Try.pinned (OpenSpec.ofChange fnExactValueOfWrong)

/-- 'laws.FnExactNewHead': WHATEVER THE INPUT: true; the input reads as it did. -/
def fnExactNewHeadSpec : ChangeSpec := { name := "fnExactNewHead", fn := fun _ => fun
  | [d1, d2] => { results := [.lit (.bool true)], args := [d1, d2] }
  | _ => none }
def fnExactNewHeadRow : OpenClaim := { program := "ytjapdjkckhcelaa", sum := "b91ff08e9526594633d6f5a10cdfdd86ae87c294a954d07513607ca4dd98e7d0", func := "loop.example/g00039/laws.FnExactNewHead", spec := "fnExactNewHead", apart := false }
def FnExactNewHeadSaid : Prop := fnExactNewHeadRow.holds Try.pinned (OpenSpec.ofChange fnExactNewHeadSpec)

/-- ITS FALSE NEIGHBOUR: 'it returns false'. Refute it at one input. -/
def fnExactNewHeadWrong : ChangeSpec := { name := "fnExactNewHead", fn := fun _ => fun
  | [d1, d2] => { results := [.lit (.bool false)], args := [d1, d2] }
  | _ => none }
def FnExactNewHeadWrongFalsely : Prop := fnExactNewHeadRow.holds Try.pinned (OpenSpec.ofChange fnExactNewHeadWrong)

/-- 'laws.FnExactGoodMatchers': WHATEVER THE INPUT: true; the input reads as it did. -/
def fnExactGoodMatchersSpec : ChangeSpec := { name := "fnExactGoodMatchers", fn := fun _ => fun
  | [d] => { results := [.lit (.bool true)], args := [d] }
  | _ => none }
def fnExactGoodMatchersRow : OpenClaim := { program := "ytjapdjkckhcelaa", sum := "b91ff08e9526594633d6f5a10cdfdd86ae87c294a954d07513607ca4dd98e7d0", func := "loop.example/g00039/laws.FnExactGoodMatchers", spec := "fnExactGoodMatchers", inPlace := ["internal/bytealg.IndexByteString"], unfollowed := true, recurses := true, apart := false }
def FnExactGoodMatchersSaid : Prop := fnExactGoodMatchersRow.holds Try.pinned (OpenSpec.ofChange fnExactGoodMatchersSpec)

/-- ITS FALSE NEIGHBOUR: 'it returns false'. Refute it at one input. -/
def fnExactGoodMatchersWrong : ChangeSpec := { name := "fnExactGoodMatchers", fn := fun _ => fun
  | [d] => { results := [.lit (.bool false)], args := [d] }
  | _ => none }
def FnExactGoodMatchersWrongFalsely : Prop := fnExactGoodMatchersRow.holds Try.pinned (OpenSpec.ofChange fnExactGoodMatchersWrong)

/-- 'laws.FnExactCompareLabels': WHATEVER THE INPUT: true; the input reads as it did. -/
def fnExactCompareLabelsSpec : ChangeSpec := { name := "fnExactCompareLabels", fn := fun _ => fun
  | [d1, d2] => { results := [.lit (.bool true)], args := [d1, d2] }
  | _ => none }
def fnExactCompareLabelsRow : OpenClaim := { program := "ytjapdjkckhcelaa", sum := "b91ff08e9526594633d6f5a10cdfdd86ae87c294a954d07513607ca4dd98e7d0", func := "loop.example/g00039/laws.FnExactCompareLabels", spec := "fnExactCompareLabels", apart := false }
def FnExactCompareLabelsSaid : Prop := fnExactCompareLabelsRow.holds Try.pinned (OpenSpec.ofChange fnExactCompareLabelsSpec)

/-- ITS FALSE NEIGHBOUR: 'it returns false'. Refute it at one input. -/
def fnExactCompareLabelsWrong : ChangeSpec := { name := "fnExactCompareLabels", fn := fun _ => fun
  | [d1, d2] => { results := [.lit (.bool false)], args := [d1, d2] }
  | _ => none }
def FnExactCompareLabelsWrongFalsely : Prop := fnExactCompareLabelsRow.holds Try.pinned (OpenSpec.ofChange fnExactCompareLabelsWrong)

/- THE SECOND FORM. 'bulk': how many values and letters a reading holds, each counted each time it is reached (what is shared counts as often as it is met; a slice's spare places count too). A statement '..UptoSaid' is the law's where the arguments, and the package variables that the reading takes, are together of bulk at most 1048576: NARROWER than '..Said'. Prove '..Said' where nothing that the law and all that it calls make is longer than what came in: it says more and counts as full. Else prove '..UptoSaid'. A law counts once. -/
mutual
def uptoBulk {H : Type} : DataW H → Nat
  | .lit (.string bytes) => bytes.length + 1
  | .lit _ => 1
  | .nil => 1
  | .ptr d => uptoBulk d + 1
  | .slice elems spare => uptoBulkAll elems + uptoBulkAll spare + 1
  | .agg parts => uptoBulkAll parts + 1
  | .iface _ d => uptoBulk d + 1
  | .map entries => uptoBulkEntries entries + 1
  | .held _ => 1
def uptoBulkAll {H : Type} : List (DataW H) → Nat
  | [] => 0
  | d :: r => uptoBulk d + uptoBulkAll r
def uptoBulkEntries {H : Type} : List (Lit × DataW H) → Nat
  | [] => 0
  | x :: r => uptoBulkEntry x + uptoBulkEntries r
def uptoBulkEntry {H : Type} : Lit × DataW H → Nat
  | (.string bytes, d) => bytes.length + uptoBulk d + 1
  | (_, d) => uptoBulk d + 1
 end
def uptoSmall : (H : Type) → List (DataW H) → Bool := fun _ ds => decide (uptoBulkAll ds ≤ 1048576)
def OpenSpec.upto (s : _root_.Go.ChangeSpec) : _root_.Go.OpenSpec := { _root_.Go.OpenSpec.ofChange s with cond := some uptoSmall }

/-- 'laws.FnExactTakeBits', WHERE WHAT IT READS IS OF BULK AT MOST 1048576: true; the input reads as it did. -/
def fnExactTakeBitsUptoRow : OpenClaim := { program := "ytjapdjkckhcelaa", sum := "b91ff08e9526594633d6f5a10cdfdd86ae87c294a954d07513607ca4dd98e7d0", func := "loop.example/g00039/laws.FnExactTakeBits", spec := "fnExactTakeBits", apart := false, narrowed := true }
def FnExactTakeBitsUptoSaid : Prop := fnExactTakeBitsUptoRow.holds Try.pinned (OpenSpec.upto fnExactTakeBitsSpec)

/-- 'laws.FnExactAddBits', WHERE WHAT IT READS IS OF BULK AT MOST 1048576: true; the input reads as it did. -/
def fnExactAddBitsUptoRow : OpenClaim := { program := "ytjapdjkckhcelaa", sum := "b91ff08e9526594633d6f5a10cdfdd86ae87c294a954d07513607ca4dd98e7d0", func := "loop.example/g00039/laws.FnExactAddBits", spec := "fnExactAddBits", apart := false, narrowed := true }
def FnExactAddBitsUptoSaid : Prop := fnExactAddBitsUptoRow.holds Try.pinned (OpenSpec.upto fnExactAddBitsSpec)

/-- 'laws.FnExactSampleAt', WHERE WHAT IT READS IS OF BULK AT MOST 1048576: true; the input reads as it did. -/
def fnExactSampleAtUptoRow : OpenClaim := { program := "ytjapdjkckhcelaa", sum := "b91ff08e9526594633d6f5a10cdfdd86ae87c294a954d07513607ca4dd98e7d0", func := "loop.example/g00039/laws.FnExactSampleAt", spec := "fnExactSampleAt", unfollowed := true, recurses := true, apart := false, narrowed := true }
def FnExactSampleAtUptoSaid : Prop := fnExactSampleAtUptoRow.holds Try.pinned (OpenSpec.upto fnExactSampleAtSpec)

/-- 'laws.FnExactCutSamples', WHERE WHAT IT READS IS OF BULK AT MOST 1048576: true; the input reads as it did. -/
def fnExactCutSamplesUptoRow : OpenClaim := { program := "ytjapdjkckhcelaa", sum := "b91ff08e9526594633d6f5a10cdfdd86ae87c294a954d07513607ca4dd98e7d0", func := "loop.example/g00039/laws.FnExactCutSamples", spec := "fnExactCutSamples", unfollowed := true, recurses := true, apart := false, narrowed := true }
def FnExactCutSamplesUptoSaid : Prop := fnExactCutSamplesUptoRow.holds Try.pinned (OpenSpec.upto fnExactCutSamplesSpec)

/-- 'laws.FnExactMergeSamples', WHERE WHAT IT READS IS OF BULK AT MOST 1048576: true; the input reads as it did. -/
def fnExactMergeSamplesUptoRow : OpenClaim := { program := "ytjapdjkckhcelaa", sum := "b91ff08e9526594633d6f5a10cdfdd86ae87c294a954d07513607ca4dd98e7d0", func := "loop.example/g00039/laws.FnExactMergeSamples", spec := "fnExactMergeSamples", apart := false, narrowed := true }
def FnExactMergeSamplesUptoSaid : Prop := fnExactMergeSamplesUptoRow.holds Try.pinned (OpenSpec.upto fnExactMergeSamplesSpec)

/-- 'laws.FnExactFillValue', WHERE WHAT IT READS IS OF BULK AT MOST 1048576: true; the input reads as it did. -/
def fnExactFillValueUptoRow : OpenClaim := { program := "ytjapdjkckhcelaa", sum := "b91ff08e9526594633d6f5a10cdfdd86ae87c294a954d07513607ca4dd98e7d0", func := "loop.example/g00039/laws.FnExactFillValue", spec := "fnExactFillValue", inPlace := ["internal/abi.NoEscape"], apart := false, narrowed := true }
def FnExactFillValueUptoSaid : Prop := fnExactFillValueUptoRow.holds Try.pinned (OpenSpec.upto fnExactFillValueSpec)

/-- 'laws.FnExactGoodLabels', WHERE WHAT IT READS IS OF BULK AT MOST 1048576: true; the input reads as it did. -/
def fnExactGoodLabelsUptoRow : OpenClaim := { program := "ytjapdjkckhcelaa", sum := "b91ff08e9526594633d6f5a10cdfdd86ae87c294a954d07513607ca4dd98e7d0", func := "loop.example/g00039/laws.FnExactGoodLabels", spec := "fnExactGoodLabels", apart := false, narrowed := true }
def FnExactGoodLabelsUptoSaid : Prop := fnExactGoodLabelsUptoRow.holds Try.pinned (OpenSpec.upto fnExactGoodLabelsSpec)

/-- 'laws.FnExactPatternFits', WHERE WHAT IT READS IS OF BULK AT MOST 1048576: true; the input reads as it did. -/
def fnExactPatternFitsUptoRow : OpenClaim := { program := "ytjapdjkckhcelaa", sum := "b91ff08e9526594633d6f5a10cdfdd86ae87c294a954d07513607ca4dd98e7d0", func := "loop.example/g00039/laws.FnExactPatternFits", spec := "fnExactPatternFits", inPlace := ["internal/bytealg.IndexByteString"], unfollowed := true, recurses := true, apart := false, narrowed := true }
def FnExactPatternFitsUptoSaid : Prop := fnExactPatternFitsUptoRow.holds Try.pinned (OpenSpec.upto fnExactPatternFitsSpec)

/-- 'laws.FnExactValueOf', WHERE WHAT IT READS IS OF BULK AT MOST 1048576: true; the input reads as it did. -/
def fnExactValueOfUptoRow : OpenClaim := { program := "ytjapdjkckhcelaa", sum := "b91ff08e9526594633d6f5a10cdfdd86ae87c294a954d07513607ca4dd98e7d0", func := "loop.example/g00039/laws.FnExactValueOf", spec := "fnExactValueOf", apart := false, narrowed := true }
def FnExactValueOfUptoSaid : Prop := fnExactValueOfUptoRow.holds Try.pinned (OpenSpec.upto fnExactValueOfSpec)

/-- 'laws.FnExactNewHead', WHERE WHAT IT READS IS OF BULK AT MOST 1048576: true; the input reads as it did. -/
def fnExactNewHeadUptoRow : OpenClaim := { program := "ytjapdjkckhcelaa", sum := "b91ff08e9526594633d6f5a10cdfdd86ae87c294a954d07513607ca4dd98e7d0", func := "loop.example/g00039/laws.FnExactNewHead", spec := "fnExactNewHead", apart := false, narrowed := true }
def FnExactNewHeadUptoSaid : Prop := fnExactNewHeadUptoRow.holds Try.pinned (OpenSpec.upto fnExactNewHeadSpec)

/-- 'laws.FnExactGoodMatchers', WHERE WHAT IT READS IS OF BULK AT MOST 1048576: true; the input reads as it did. -/
def fnExactGoodMatchersUptoRow : OpenClaim := { program := "ytjapdjkckhcelaa", sum := "b91ff08e9526594633d6f5a10cdfdd86ae87c294a954d07513607ca4dd98e7d0", func := "loop.example/g00039/laws.FnExactGoodMatchers", spec := "fnExactGoodMatchers", inPlace := ["internal/bytealg.IndexByteString"], unfollowed := true, recurses := true, apart := false, narrowed := true }
def FnExactGoodMatchersUptoSaid : Prop := fnExactGoodMatchersUptoRow.holds Try.pinned (OpenSpec.upto fnExactGoodMatchersSpec)

/-- 'laws.FnExactCompareLabels', WHERE WHAT IT READS IS OF BULK AT MOST 1048576: true; the input reads as it did. -/
def fnExactCompareLabelsUptoRow : OpenClaim := { program := "ytjapdjkckhcelaa", sum := "b91ff08e9526594633d6f5a10cdfdd86ae87c294a954d07513607ca4dd98e7d0", func := "loop.example/g00039/laws.FnExactCompareLabels", spec := "fnExactCompareLabels", apart := false, narrowed := true }
def FnExactCompareLabelsUptoSaid : Prop := fnExactCompareLabelsUptoRow.holds Try.pinned (OpenSpec.upto fnExactCompareLabelsSpec)

end Rows
end Go.Proofs.Ytjapdjkckhcelaa
