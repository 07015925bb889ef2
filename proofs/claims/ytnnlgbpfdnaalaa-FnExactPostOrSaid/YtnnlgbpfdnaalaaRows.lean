/-
  No cell of these rows narrows 'for every input' (looked for: loops, veiled, ifaces, maps, wideKeys, modest, calm, conditions, laid).
  DERIVED. THE GIVEN ROWS OF THIS SEAT. 12 by the template 'for every input the law returns true; each argument reads behind the call as it read before'; 0 by the template 'total and deterministic' (their statements: YtnnlgbpfdnaalaaTotals.lean).
  GIVEN WITH THE SEED: the statements are not yours to turn. If you find one false, say at which input.
  Laid BY PROGRAM, IN A SANDBOX (cutbox-rows.mjs): the forced cells as the released guide's own fill.sh prints them over the translation e4d365bccaad5907… (all of the seat's roots in one cut). By AI agents, Wed Nov 11 2026. No macro, syntax, notation, axiom, sorry.
-/
import Derived.Test.YtnnlgbpfdnaalaaChecked
import GoSem.Claim
import GoSem.ClaimJoined
import GoSem.ClaimMapViews
import Derived.JoinedTies
import Derived.KernelRfl
namespace Go.Proofs.Ytnnlgbpfdnaalaa
/- THE CELL 'sum', in the pinned program and in every row, IS THE sha256 OF THE DUMP (.gsa) THAT YtnnlgbpfdnaalaaProg.lean LOADS. Nothing in Lean hashes anything: it is a label: what it is worth is what the hold of that sum in a sandbox is worth. -/
noncomputable def Try.pinned : Pinned := { name := "ytnnlgbpfdnaalaa", sum := "e4d365bccaad5907ed8a4d4f7198e4bf7290f0b3cfb7de21aaee2446e2a01af0", checked := Try.checked }
namespace Rows
def none {H : Type} : Left H := { results := [], args := [] }

/-- 'laws.FnExactFillValue': WHATEVER THE INPUT: true; the input reads as it did. -/
def fnExactFillValueSpec : ChangeSpec := { name := "fnExactFillValue", fn := fun _ => fun
  | [d1, d2] => { results := [.lit (.bool true)], args := [d1, d2] }
  | _ => none }
def fnExactFillValueRow : OpenClaim := { program := "ytnnlgbpfdnaalaa", sum := "e4d365bccaad5907ed8a4d4f7198e4bf7290f0b3cfb7de21aaee2446e2a01af0", func := "loop.example/g00039/laws.FnExactFillValue", spec := "fnExactFillValue", inPlace := ["internal/abi.NoEscape"], apart := false }
def FnExactFillValueSaid : Prop := fnExactFillValueRow.holds Try.pinned (OpenSpec.ofChange fnExactFillValueSpec)

/-- ITS FALSE NEIGHBOUR: 'it returns false'. Refute it at one input. -/
def fnExactFillValueWrong : ChangeSpec := { name := "fnExactFillValue", fn := fun _ => fun
  | [d1, d2] => { results := [.lit (.bool false)], args := [d1, d2] }
  | _ => none }
def FnExactFillValueWrongFalsely : Prop := fnExactFillValueRow.holds Try.pinned (OpenSpec.ofChange fnExactFillValueWrong)

/-- 'laws.FnExactPatternFits': WHATEVER THE INPUT: true; the input reads as it did. -/
def fnExactPatternFitsSpec : ChangeSpec := { name := "fnExactPatternFits", fn := fun _ => fun
  | [d1, d2] => { results := [.lit (.bool true)], args := [d1, d2] }
  | _ => none }
def fnExactPatternFitsRow : OpenClaim := { program := "ytnnlgbpfdnaalaa", sum := "e4d365bccaad5907ed8a4d4f7198e4bf7290f0b3cfb7de21aaee2446e2a01af0", func := "loop.example/g00039/laws.FnExactPatternFits", spec := "fnExactPatternFits", inPlace := ["internal/bytealg.IndexByteString"], unfollowed := true, recurses := true, apart := false }
def FnExactPatternFitsSaid : Prop := fnExactPatternFitsRow.holds Try.pinned (OpenSpec.ofChange fnExactPatternFitsSpec)

/-- ITS FALSE NEIGHBOUR: 'it returns false'. Refute it at one input. -/
def fnExactPatternFitsWrong : ChangeSpec := { name := "fnExactPatternFits", fn := fun _ => fun
  | [d1, d2] => { results := [.lit (.bool false)], args := [d1, d2] }
  | _ => none }
def FnExactPatternFitsWrongFalsely : Prop := fnExactPatternFitsRow.holds Try.pinned (OpenSpec.ofChange fnExactPatternFitsWrong)

/-- 'laws.FnExactGoodMatchers': WHATEVER THE INPUT: true; the input reads as it did. -/
def fnExactGoodMatchersSpec : ChangeSpec := { name := "fnExactGoodMatchers", fn := fun _ => fun
  | [d] => { results := [.lit (.bool true)], args := [d] }
  | _ => none }
def fnExactGoodMatchersRow : OpenClaim := { program := "ytnnlgbpfdnaalaa", sum := "e4d365bccaad5907ed8a4d4f7198e4bf7290f0b3cfb7de21aaee2446e2a01af0", func := "loop.example/g00039/laws.FnExactGoodMatchers", spec := "fnExactGoodMatchers", inPlace := ["internal/bytealg.IndexByteString"], unfollowed := true, recurses := true, apart := false }
def FnExactGoodMatchersSaid : Prop := fnExactGoodMatchersRow.holds Try.pinned (OpenSpec.ofChange fnExactGoodMatchersSpec)

/-- ITS FALSE NEIGHBOUR: 'it returns false'. Refute it at one input. -/
def fnExactGoodMatchersWrong : ChangeSpec := { name := "fnExactGoodMatchers", fn := fun _ => fun
  | [d] => { results := [.lit (.bool false)], args := [d] }
  | _ => none }
def FnExactGoodMatchersWrongFalsely : Prop := fnExactGoodMatchersRow.holds Try.pinned (OpenSpec.ofChange fnExactGoodMatchersWrong)

/-- 'laws.FnExactPatternParts': WHATEVER THE INPUT: true; the input reads as it did. -/
def fnExactPatternPartsSpec : ChangeSpec := { name := "fnExactPatternParts", fn := fun _ => fun
  | [d1, d2] => { results := [.lit (.bool true)], args := [d1, d2] }
  | _ => none }
def fnExactPatternPartsRow : OpenClaim := { program := "ytnnlgbpfdnaalaa", sum := "e4d365bccaad5907ed8a4d4f7198e4bf7290f0b3cfb7de21aaee2446e2a01af0", func := "loop.example/g00039/laws.FnExactPatternParts", spec := "fnExactPatternParts", inPlace := ["internal/bytealg.IndexByteString"], unfollowed := true, recurses := true, apart := false }
def FnExactPatternPartsSaid : Prop := fnExactPatternPartsRow.holds Try.pinned (OpenSpec.ofChange fnExactPatternPartsSpec)

/-- ITS FALSE NEIGHBOUR: 'it returns false'. Refute it at one input. -/
def fnExactPatternPartsWrong : ChangeSpec := { name := "fnExactPatternParts", fn := fun _ => fun
  | [d1, d2] => { results := [.lit (.bool false)], args := [d1, d2] }
  | _ => none }
def FnExactPatternPartsWrongFalsely : Prop := fnExactPatternPartsRow.holds Try.pinned (OpenSpec.ofChange fnExactPatternPartsWrong)

/-- 'laws.FnExactGoodRelabel': WHATEVER THE INPUT: true; the input reads as it did. -/
def fnExactGoodRelabelSpec : ChangeSpec := { name := "fnExactGoodRelabel", fn := fun _ => fun
  | [d] => { results := [.lit (.bool true)], args := [d] }
  | _ => none }
def fnExactGoodRelabelRow : OpenClaim := { program := "ytnnlgbpfdnaalaa", sum := "e4d365bccaad5907ed8a4d4f7198e4bf7290f0b3cfb7de21aaee2446e2a01af0", func := "loop.example/g00039/laws.FnExactGoodRelabel", spec := "fnExactGoodRelabel", inPlace := ["internal/bytealg.IndexByteString"], unfollowed := true, recurses := true, apart := false }
def FnExactGoodRelabelSaid : Prop := fnExactGoodRelabelRow.holds Try.pinned (OpenSpec.ofChange fnExactGoodRelabelSpec)

/-- ITS FALSE NEIGHBOUR: 'it returns false'. Refute it at one input. -/
def fnExactGoodRelabelWrong : ChangeSpec := { name := "fnExactGoodRelabel", fn := fun _ => fun
  | [d] => { results := [.lit (.bool false)], args := [d] }
  | _ => none }
def FnExactGoodRelabelWrongFalsely : Prop := fnExactGoodRelabelRow.holds Try.pinned (OpenSpec.ofChange fnExactGoodRelabelWrong)

/-- 'laws.FnExactFits': WHATEVER THE INPUT: true; the input reads as it did. -/
def fnExactFitsSpec : ChangeSpec := { name := "fnExactFits", fn := fun _ => fun
  | [d1, d2] => { results := [.lit (.bool true)], args := [d1, d2] }
  | _ => none }
def fnExactFitsRow : OpenClaim := { program := "ytnnlgbpfdnaalaa", sum := "e4d365bccaad5907ed8a4d4f7198e4bf7290f0b3cfb7de21aaee2446e2a01af0", func := "loop.example/g00039/laws.FnExactFits", spec := "fnExactFits", inPlace := ["internal/bytealg.IndexByteString"], unfollowed := true, recurses := true, apart := false }
def FnExactFitsSaid : Prop := fnExactFitsRow.holds Try.pinned (OpenSpec.ofChange fnExactFitsSpec)

/-- ITS FALSE NEIGHBOUR: 'it returns false'. Refute it at one input. -/
def fnExactFitsWrong : ChangeSpec := { name := "fnExactFits", fn := fun _ => fun
  | [d1, d2] => { results := [.lit (.bool false)], args := [d1, d2] }
  | _ => none }
def FnExactFitsWrongFalsely : Prop := fnExactFitsRow.holds Try.pinned (OpenSpec.ofChange fnExactFitsWrong)

/-- 'laws.FnExactGoodTarget': WHATEVER THE INPUT: true; the input reads as it did. -/
def fnExactGoodTargetSpec : ChangeSpec := { name := "fnExactGoodTarget", fn := fun _ => fun
  | [d] => { results := [.lit (.bool true)], args := [d] }
  | _ => none }
def fnExactGoodTargetRow : OpenClaim := { program := "ytnnlgbpfdnaalaa", sum := "e4d365bccaad5907ed8a4d4f7198e4bf7290f0b3cfb7de21aaee2446e2a01af0", func := "loop.example/g00039/laws.FnExactGoodTarget", spec := "fnExactGoodTarget", inPlace := ["internal/bytealg.IndexByteString"], unfollowed := true, recurses := true, apart := false }
def FnExactGoodTargetSaid : Prop := fnExactGoodTargetRow.holds Try.pinned (OpenSpec.ofChange fnExactGoodTargetSpec)

/-- ITS FALSE NEIGHBOUR: 'it returns false'. Refute it at one input. -/
def fnExactGoodTargetWrong : ChangeSpec := { name := "fnExactGoodTarget", fn := fun _ => fun
  | [d] => { results := [.lit (.bool false)], args := [d] }
  | _ => none }
def FnExactGoodTargetWrongFalsely : Prop := fnExactGoodTargetRow.holds Try.pinned (OpenSpec.ofChange fnExactGoodTargetWrong)

/-- 'laws.FnExactPostAnd': WHATEVER THE INPUT: true; the input reads as it did. -/
def fnExactPostAndSpec : ChangeSpec := { name := "fnExactPostAnd", fn := fun _ => fun
  | [d1, d2] => { results := [.lit (.bool true)], args := [d1, d2] }
  | _ => none }
def fnExactPostAndRow : OpenClaim := { program := "ytnnlgbpfdnaalaa", sum := "e4d365bccaad5907ed8a4d4f7198e4bf7290f0b3cfb7de21aaee2446e2a01af0", func := "loop.example/g00039/laws.FnExactPostAnd", spec := "fnExactPostAnd", unfollowed := true, recurses := true, apart := false }
def FnExactPostAndSaid : Prop := fnExactPostAndRow.holds Try.pinned (OpenSpec.ofChange fnExactPostAndSpec)

/-- ITS FALSE NEIGHBOUR: 'it returns false'. Refute it at one input. -/
def fnExactPostAndWrong : ChangeSpec := { name := "fnExactPostAnd", fn := fun _ => fun
  | [d1, d2] => { results := [.lit (.bool false)], args := [d1, d2] }
  | _ => none }
def FnExactPostAndWrongFalsely : Prop := fnExactPostAndRow.holds Try.pinned (OpenSpec.ofChange fnExactPostAndWrong)

/-- 'laws.FnExactPostMinus': WHATEVER THE INPUT: true; the input reads as it did. -/
def fnExactPostMinusSpec : ChangeSpec := { name := "fnExactPostMinus", fn := fun _ => fun
  | [d1, d2] => { results := [.lit (.bool true)], args := [d1, d2] }
  | _ => none }
def fnExactPostMinusRow : OpenClaim := { program := "ytnnlgbpfdnaalaa", sum := "e4d365bccaad5907ed8a4d4f7198e4bf7290f0b3cfb7de21aaee2446e2a01af0", func := "loop.example/g00039/laws.FnExactPostMinus", spec := "fnExactPostMinus", unfollowed := true, recurses := true, apart := false }
def FnExactPostMinusSaid : Prop := fnExactPostMinusRow.holds Try.pinned (OpenSpec.ofChange fnExactPostMinusSpec)

/-- ITS FALSE NEIGHBOUR: 'it returns false'. Refute it at one input. -/
def fnExactPostMinusWrong : ChangeSpec := { name := "fnExactPostMinus", fn := fun _ => fun
  | [d1, d2] => { results := [.lit (.bool false)], args := [d1, d2] }
  | _ => none }
def FnExactPostMinusWrongFalsely : Prop := fnExactPostMinusRow.holds Try.pinned (OpenSpec.ofChange fnExactPostMinusWrong)

/-- 'laws.FnExactPostOr': WHATEVER THE INPUT: true; the input reads as it did. -/
def fnExactPostOrSpec : ChangeSpec := { name := "fnExactPostOr", fn := fun _ => fun
  | [d1, d2] => { results := [.lit (.bool true)], args := [d1, d2] }
  | _ => none }
def fnExactPostOrRow : OpenClaim := { program := "ytnnlgbpfdnaalaa", sum := "e4d365bccaad5907ed8a4d4f7198e4bf7290f0b3cfb7de21aaee2446e2a01af0", func := "loop.example/g00039/laws.FnExactPostOr", spec := "fnExactPostOr", unfollowed := true, recurses := true, apart := false }
def FnExactPostOrSaid : Prop := fnExactPostOrRow.holds Try.pinned (OpenSpec.ofChange fnExactPostOrSpec)

/-- ITS FALSE NEIGHBOUR: 'it returns false'. Refute it at one input. -/
def fnExactPostOrWrong : ChangeSpec := { name := "fnExactPostOr", fn := fun _ => fun
  | [d1, d2] => { results := [.lit (.bool false)], args := [d1, d2] }
  | _ => none }
def FnExactPostOrWrongFalsely : Prop := fnExactPostOrRow.holds Try.pinned (OpenSpec.ofChange fnExactPostOrWrong)

/-- 'laws.FnExactPullTimes': WHATEVER THE INPUT: true; the input reads as it did. -/
def fnExactPullTimesSpec : ChangeSpec := { name := "fnExactPullTimes", fn := fun _ => fun
  | [d1, d2, d3] => { results := [.lit (.bool true)], args := [d1, d2, d3] }
  | _ => none }
def fnExactPullTimesRow : OpenClaim := { program := "ytnnlgbpfdnaalaa", sum := "e4d365bccaad5907ed8a4d4f7198e4bf7290f0b3cfb7de21aaee2446e2a01af0", func := "loop.example/g00039/laws.FnExactPullTimes", spec := "fnExactPullTimes", inPlace := ["internal/bytealg.IndexByteString", "internal/abi.NoEscape", "internal/bytealg.MakeNoZero"], unfollowed := true, recurses := true, apart := false }
def FnExactPullTimesSaid : Prop := fnExactPullTimesRow.holds Try.pinned (OpenSpec.ofChange fnExactPullTimesSpec)

/-- ITS FALSE NEIGHBOUR: 'it returns false'. Refute it at one input. -/
def fnExactPullTimesWrong : ChangeSpec := { name := "fnExactPullTimes", fn := fun _ => fun
  | [d1, d2, d3] => { results := [.lit (.bool false)], args := [d1, d2, d3] }
  | _ => none }
def FnExactPullTimesWrongFalsely : Prop := fnExactPullTimesRow.holds Try.pinned (OpenSpec.ofChange fnExactPullTimesWrong)

/-- 'laws.FnExactOffsetOf': WHATEVER THE INPUT: true; the input reads as it did. -/
def fnExactOffsetOfSpec : ChangeSpec := { name := "fnExactOffsetOf", fn := fun _ => fun
  | [d] => { results := [.lit (.bool true)], args := [d] }
  | _ => none }
def fnExactOffsetOfRow : OpenClaim := { program := "ytnnlgbpfdnaalaa", sum := "e4d365bccaad5907ed8a4d4f7198e4bf7290f0b3cfb7de21aaee2446e2a01af0", func := "loop.example/g00039/laws.FnExactOffsetOf", spec := "fnExactOffsetOf", inPlace := ["internal/bytealg.IndexByteString", "internal/abi.NoEscape", "internal/bytealg.MakeNoZero"], unfollowed := true, recurses := true, apart := false }
def FnExactOffsetOfSaid : Prop := fnExactOffsetOfRow.holds Try.pinned (OpenSpec.ofChange fnExactOffsetOfSpec)

/-- ITS FALSE NEIGHBOUR: 'it returns false'. Refute it at one input. -/
def fnExactOffsetOfWrong : ChangeSpec := { name := "fnExactOffsetOf", fn := fun _ => fun
  | [d] => { results := [.lit (.bool false)], args := [d] }
  | _ => none }
def FnExactOffsetOfWrongFalsely : Prop := fnExactOffsetOfRow.holds Try.pinned (OpenSpec.ofChange fnExactOffsetOfWrong)

/- THE SECOND FORM. 'bulk': how many values and letters a reading holds, each counted each time it is reached (what is shared counts as often as it is met; a slice's spare places count too). A statement '..UptoSaid' is the law's where the arguments, and the package variables that the reading takes, are together of bulk at most 1048576: NARROWER than '..Said'. Prove '..Said' where nothing that the law and all that it calls make is longer than what came in: it says more and counts as full. Else prove '..UptoSaid'. A law counts once. -/
mutual
def uptoBulk {H : Type} : DataW H → Nat
  | .lit (.string bytes) => bytes.length + 1
  | .lit _ => 1
  | .nil => 1
  | .ptr d => uptoBulk d + 1
  | .slice elems spare => uptoBulkAll elems + uptoBulkAll spare + 1
  | .agg parts => uptoBulkAll parts + 1
  | .iface _ d => uptoBulk d + 1
  | .map entries => uptoBulkEntries entries + 1
  | .held _ => 1
def uptoBulkAll {H : Type} : List (DataW H) → Nat
  | [] => 0
  | d :: r => uptoBulk d + uptoBulkAll r
def uptoBulkEntries {H : Type} : List (Lit × DataW H) → Nat
  | [] => 0
  | x :: r => uptoBulkEntry x + uptoBulkEntries r
def uptoBulkEntry {H : Type} : Lit × DataW H → Nat
  | (.string bytes, d) => bytes.length + uptoBulk d + 1
  | (_, d) => uptoBulk d + 1
 end
def uptoSmall : (H : Type) → List (DataW H) → Bool := fun _ ds => decide (uptoBulkAll ds ≤ 1048576)
def OpenSpec.upto (s : _root_.Go.ChangeSpec) : _root_.Go.OpenSpec := { _root_.Go.OpenSpec.ofChange s with cond := some uptoSmall }

/-- 'laws.FnExactFillValue', WHERE WHAT IT READS IS OF BULK AT MOST 1048576: true; the input reads as it did. -/
def fnExactFillValueUptoRow : OpenClaim := { program := "ytnnlgbpfdnaalaa", sum := "e4d365bccaad5907ed8a4d4f7198e4bf7290f0b3cfb7de21aaee2446e2a01af0", func := "loop.example/g00039/laws.FnExactFillValue", spec := "fnExactFillValue", inPlace := ["internal/abi.NoEscape"], apart := false, narrowed := true }
def FnExactFillValueUptoSaid : Prop := fnExactFillValueUptoRow.holds Try.pinned (OpenSpec.upto fnExactFillValueSpec)

/-- 'laws.FnExactPatternFits', WHERE WHAT IT READS IS OF BULK AT MOST 1048576: true; the input reads as it did. -/
def fnExactPatternFitsUptoRow : OpenClaim := { program := "ytnnlgbpfdnaalaa", sum := "e4d365bccaad5907ed8a4d4f7198e4bf7290f0b3cfb7de21aaee2446e2a01af0", func := "loop.example/g00039/laws.FnExactPatternFits", spec := "fnExactPatternFits", inPlace := ["internal/bytealg.IndexByteString"], unfollowed := true, recurses := true, apart := false, narrowed := true }
def FnExactPatternFitsUptoSaid : Prop := fnExactPatternFitsUptoRow.holds Try.pinned (OpenSpec.upto fnExactPatternFitsSpec)

/-- 'laws.FnExactGoodMatchers', WHERE WHAT IT READS IS OF BULK AT MOST 1048576: true; the input reads as it did. -/
def fnExactGoodMatchersUptoRow : OpenClaim := { program := "ytnnlgbpfdnaalaa", sum := "e4d365bccaad5907ed8a4d4f7198e4bf7290f0b3cfb7de21aaee2446e2a01af0", func := "loop.example/g00039/laws.FnExactGoodMatchers", spec := "fnExactGoodMatchers", inPlace := ["internal/bytealg.IndexByteString"], unfollowed := true, recurses := true, apart := false, narrowed := true }
def FnExactGoodMatchersUptoSaid : Prop := fnExactGoodMatchersUptoRow.holds Try.pinned (OpenSpec.upto fnExactGoodMatchersSpec)

/-- 'laws.FnExactPatternParts', WHERE WHAT IT READS IS OF BULK AT MOST 1048576: true; the input reads as it did. -/
def fnExactPatternPartsUptoRow : OpenClaim := { program := "ytnnlgbpfdnaalaa", sum := "e4d365bccaad5907ed8a4d4f7198e4bf7290f0b3cfb7de21aaee2446e2a01af0", func := "loop.example/g00039/laws.FnExactPatternParts", spec := "fnExactPatternParts", inPlace := ["internal/bytealg.IndexByteString"], unfollowed := true, recurses := true, apart := false, narrowed := true }
def FnExactPatternPartsUptoSaid : Prop := fnExactPatternPartsUptoRow.holds Try.pinned (OpenSpec.upto fnExactPatternPartsSpec)

/-- 'laws.FnExactGoodRelabel', WHERE WHAT IT READS IS OF BULK AT MOST 1048576: true; the input reads as it did. -/
def fnExactGoodRelabelUptoRow : OpenClaim := { program := "ytnnlgbpfdnaalaa", sum := "e4d365bccaad5907ed8a4d4f7198e4bf7290f0b3cfb7de21aaee2446e2a01af0", func := "loop.example/g00039/laws.FnExactGoodRelabel", spec := "fnExactGoodRelabel", inPlace := ["internal/bytealg.IndexByteString"], unfollowed := true, recurses := true, apart := false, narrowed := true }
def FnExactGoodRelabelUptoSaid : Prop := fnExactGoodRelabelUptoRow.holds Try.pinned (OpenSpec.upto fnExactGoodRelabelSpec)

/-- 'laws.FnExactFits', WHERE WHAT IT READS IS OF BULK AT MOST 1048576: true; the input reads as it did. -/
def fnExactFitsUptoRow : OpenClaim := { program := "ytnnlgbpfdnaalaa", sum := "e4d365bccaad5907ed8a4d4f7198e4bf7290f0b3cfb7de21aaee2446e2a01af0", func := "loop.example/g00039/laws.FnExactFits", spec := "fnExactFits", inPlace := ["internal/bytealg.IndexByteString"], unfollowed := true, recurses := true, apart := false, narrowed := true }
def FnExactFitsUptoSaid : Prop := fnExactFitsUptoRow.holds Try.pinned (OpenSpec.upto fnExactFitsSpec)

/-- 'laws.FnExactGoodTarget', WHERE WHAT IT READS IS OF BULK AT MOST 1048576: true; the input reads as it did. -/
def fnExactGoodTargetUptoRow : OpenClaim := { program := "ytnnlgbpfdnaalaa", sum := "e4d365bccaad5907ed8a4d4f7198e4bf7290f0b3cfb7de21aaee2446e2a01af0", func := "loop.example/g00039/laws.FnExactGoodTarget", spec := "fnExactGoodTarget", inPlace := ["internal/bytealg.IndexByteString"], unfollowed := true, recurses := true, apart := false, narrowed := true }
def FnExactGoodTargetUptoSaid : Prop := fnExactGoodTargetUptoRow.holds Try.pinned (OpenSpec.upto fnExactGoodTargetSpec)

/-- 'laws.FnExactPostAnd', WHERE WHAT IT READS IS OF BULK AT MOST 1048576: true; the input reads as it did. -/
def fnExactPostAndUptoRow : OpenClaim := { program := "ytnnlgbpfdnaalaa", sum := "e4d365bccaad5907ed8a4d4f7198e4bf7290f0b3cfb7de21aaee2446e2a01af0", func := "loop.example/g00039/laws.FnExactPostAnd", spec := "fnExactPostAnd", unfollowed := true, recurses := true, apart := false, narrowed := true }
def FnExactPostAndUptoSaid : Prop := fnExactPostAndUptoRow.holds Try.pinned (OpenSpec.upto fnExactPostAndSpec)

/-- 'laws.FnExactPostMinus', WHERE WHAT IT READS IS OF BULK AT MOST 1048576: true; the input reads as it did. -/
def fnExactPostMinusUptoRow : OpenClaim := { program := "ytnnlgbpfdnaalaa", sum := "e4d365bccaad5907ed8a4d4f7198e4bf7290f0b3cfb7de21aaee2446e2a01af0", func := "loop.example/g00039/laws.FnExactPostMinus", spec := "fnExactPostMinus", unfollowed := true, recurses := true, apart := false, narrowed := true }
def FnExactPostMinusUptoSaid : Prop := fnExactPostMinusUptoRow.holds Try.pinned (OpenSpec.upto fnExactPostMinusSpec)

/-- 'laws.FnExactPostOr', WHERE WHAT IT READS IS OF BULK AT MOST 1048576: true; the input reads as it did. -/
def fnExactPostOrUptoRow : OpenClaim := { program := "ytnnlgbpfdnaalaa", sum := "e4d365bccaad5907ed8a4d4f7198e4bf7290f0b3cfb7de21aaee2446e2a01af0", func := "loop.example/g00039/laws.FnExactPostOr", spec := "fnExactPostOr", unfollowed := true, recurses := true, apart := false, narrowed := true }
def FnExactPostOrUptoSaid : Prop := fnExactPostOrUptoRow.holds Try.pinned (OpenSpec.upto fnExactPostOrSpec)

/-- 'laws.FnExactPullTimes', WHERE WHAT IT READS IS OF BULK AT MOST 1048576: true; the input reads as it did. -/
def fnExactPullTimesUptoRow : OpenClaim := { program := "ytnnlgbpfdnaalaa", sum := "e4d365bccaad5907ed8a4d4f7198e4bf7290f0b3cfb7de21aaee2446e2a01af0", func := "loop.example/g00039/laws.FnExactPullTimes", spec := "fnExactPullTimes", inPlace := ["internal/bytealg.IndexByteString", "internal/abi.NoEscape", "internal/bytealg.MakeNoZero"], unfollowed := true, recurses := true, apart := false, narrowed := true }
def FnExactPullTimesUptoSaid : Prop := fnExactPullTimesUptoRow.holds Try.pinned (OpenSpec.upto fnExactPullTimesSpec)

/-- 'laws.FnExactOffsetOf', WHERE WHAT IT READS IS OF BULK AT MOST 1048576: true; the input reads as it did. -/
def fnExactOffsetOfUptoRow : OpenClaim := { program := "ytnnlgbpfdnaalaa", sum := "e4d365bccaad5907ed8a4d4f7198e4bf7290f0b3cfb7de21aaee2446e2a01af0", func := "loop.example/g00039/laws.FnExactOffsetOf", spec := "fnExactOffsetOf", inPlace := ["internal/bytealg.IndexByteString", "internal/abi.NoEscape", "internal/bytealg.MakeNoZero"], unfollowed := true, recurses := true, apart := false, narrowed := true }
def FnExactOffsetOfUptoSaid : Prop := fnExactOffsetOfUptoRow.holds Try.pinned (OpenSpec.upto fnExactOffsetOfSpec)

end Rows
end Go.Proofs.Ytnnlgbpfdnaalaa
