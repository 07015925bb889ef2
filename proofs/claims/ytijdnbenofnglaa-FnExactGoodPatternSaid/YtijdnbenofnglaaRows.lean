/-
  No cell of these rows narrows 'for every input' (looked for: loops, veiled, ifaces, maps, wideKeys, modest, calm, conditions, laid).
  DERIVED. THE GIVEN ROWS OF THIS SEAT. 12 by the template 'for every input the law returns true; each argument reads behind the call as it read before'; 0 by the template 'total and deterministic' (their statements: YtijdnbenofnglaaTotals.lean).
  GIVEN WITH THE SEED: the statements are not yours to turn. If you find one false, say at which input.
  Laid BY PROGRAM, IN A SANDBOX (cutbox-rows.mjs): the forced cells as the released guide's own fill.sh prints them over the translation 10b320bfaf1d546d… (all of the seat's roots in one cut). By AI agents, Wed Nov 11 2026. No macro, syntax, notation, axiom, sorry.
-/
import Derived.Test.YtijdnbenofnglaaChecked
import GoSem.Claim
import GoSem.ClaimJoined
import GoSem.ClaimMapViews
import Derived.JoinedTies
import Derived.KernelRfl
namespace Go.Proofs.Ytijdnbenofnglaa
/- THE CELL 'sum', in the pinned program and in every row, IS THE sha256 OF THE DUMP (.gsa) THAT YtijdnbenofnglaaProg.lean LOADS. Nothing in Lean hashes anything: it is a label: what it is worth is what the hold of that sum in a sandbox is worth. -/
noncomputable def Try.pinned : Pinned := { name := "ytijdnbenofnglaa", sum := "10b320bfaf1d546df58d220d592a9338803d04bd727369700f7a160548db76da", checked := Try.checked }
namespace Rows
def none {H : Type} : Left H := { results := [], args := [] }

/-- 'laws.FnExactConstants': WHATEVER THE INPUT: true; the input reads as it did. -/
def fnExactConstantsSpec : ChangeSpec := { name := "fnExactConstants", fn := fun _ => fun
  | [] => { results := [.lit (.bool true)], args := [] }
  | _ => none }
def fnExactConstantsRow : OpenClaim := { program := "ytijdnbenofnglaa", sum := "10b320bfaf1d546df58d220d592a9338803d04bd727369700f7a160548db76da", func := "loop.example/g00039/laws.FnExactConstants", spec := "fnExactConstants", apart := false }
def FnExactConstantsSaid : Prop := fnExactConstantsRow.holds Try.pinned (OpenSpec.ofChange fnExactConstantsSpec)

/-- ITS FALSE NEIGHBOUR: 'it returns false'. Refute it at one input. -/
def fnExactConstantsWrong : ChangeSpec := { name := "fnExactConstants", fn := fun _ => fun
  | [] => { results := [.lit (.bool false)], args := [] }
  | _ => none }
def FnExactConstantsWrongFalsely : Prop := fnExactConstantsRow.holds Try.pinned (OpenSpec.ofChange fnExactConstantsWrong)

/-- 'laws.FnExactZigZag': WHATEVER THE INPUT: true; the input reads as it did. -/
def fnExactZigZagSpec : ChangeSpec := { name := "fnExactZigZag", fn := fun _ => fun
  | [d] => { results := [.lit (.bool true)], args := [d] }
  | _ => none }
def fnExactZigZagRow : OpenClaim := { program := "ytijdnbenofnglaa", sum := "10b320bfaf1d546df58d220d592a9338803d04bd727369700f7a160548db76da", func := "loop.example/g00039/laws.FnExactZigZag", spec := "fnExactZigZag", apart := false }
def FnExactZigZagSaid : Prop := fnExactZigZagRow.holds Try.pinned (OpenSpec.ofChange fnExactZigZagSpec)

/-- ITS FALSE NEIGHBOUR: 'it returns false'. Refute it at one input. -/
def fnExactZigZagWrong : ChangeSpec := { name := "fnExactZigZag", fn := fun _ => fun
  | [d] => { results := [.lit (.bool false)], args := [d] }
  | _ => none }
def FnExactZigZagWrongFalsely : Prop := fnExactZigZagRow.holds Try.pinned (OpenSpec.ofChange fnExactZigZagWrong)

/-- 'laws.FnExactUnZigZag': WHATEVER THE INPUT: true; the input reads as it did. -/
def fnExactUnZigZagSpec : ChangeSpec := { name := "fnExactUnZigZag", fn := fun _ => fun
  | [d] => { results := [.lit (.bool true)], args := [d] }
  | _ => none }
def fnExactUnZigZagRow : OpenClaim := { program := "ytijdnbenofnglaa", sum := "10b320bfaf1d546df58d220d592a9338803d04bd727369700f7a160548db76da", func := "loop.example/g00039/laws.FnExactUnZigZag", spec := "fnExactUnZigZag", apart := false }
def FnExactUnZigZagSaid : Prop := fnExactUnZigZagRow.holds Try.pinned (OpenSpec.ofChange fnExactUnZigZagSpec)

/-- ITS FALSE NEIGHBOUR: 'it returns false'. Refute it at one input. -/
def fnExactUnZigZagWrong : ChangeSpec := { name := "fnExactUnZigZag", fn := fun _ => fun
  | [d] => { results := [.lit (.bool false)], args := [d] }
  | _ => none }
def FnExactUnZigZagWrongFalsely : Prop := fnExactUnZigZagRow.holds Try.pinned (OpenSpec.ofChange fnExactUnZigZagWrong)

/-- 'laws.FnExactMix': WHATEVER THE INPUT: true; the input reads as it did. -/
def fnExactMixSpec : ChangeSpec := { name := "fnExactMix", fn := fun _ => fun
  | [d] => { results := [.lit (.bool true)], args := [d] }
  | _ => none }
def fnExactMixRow : OpenClaim := { program := "ytijdnbenofnglaa", sum := "10b320bfaf1d546df58d220d592a9338803d04bd727369700f7a160548db76da", func := "loop.example/g00039/laws.FnExactMix", spec := "fnExactMix", apart := false }
def FnExactMixSaid : Prop := fnExactMixRow.holds Try.pinned (OpenSpec.ofChange fnExactMixSpec)

/-- ITS FALSE NEIGHBOUR: 'it returns false'. Refute it at one input. -/
def fnExactMixWrong : ChangeSpec := { name := "fnExactMix", fn := fun _ => fun
  | [d] => { results := [.lit (.bool false)], args := [d] }
  | _ => none }
def FnExactMixWrongFalsely : Prop := fnExactMixRow.holds Try.pinned (OpenSpec.ofChange fnExactMixWrong)

/-- 'laws.FnVar': WHATEVER THE INPUT: true; the input reads as it did. -/
def fnVarSpec : ChangeSpec := { name := "fnVar", fn := fun _ => fun
  | [d] => { results := [.lit (.bool true)], args := [d] }
  | _ => none }
def fnVarRow : OpenClaim := { program := "ytijdnbenofnglaa", sum := "10b320bfaf1d546df58d220d592a9338803d04bd727369700f7a160548db76da", func := "loop.example/g00039/laws.FnVar", spec := "fnVar", apart := false }
def FnVarSaid : Prop := fnVarRow.holds Try.pinned (OpenSpec.ofChange fnVarSpec)

/-- ITS FALSE NEIGHBOUR: 'it returns false'. Refute it at one input. -/
def fnVarWrong : ChangeSpec := { name := "fnVar", fn := fun _ => fun
  | [d] => { results := [.lit (.bool false)], args := [d] }
  | _ => none }
def FnVarWrongFalsely : Prop := fnVarRow.holds Try.pinned (OpenSpec.ofChange fnVarWrong)

/-- 'laws.FnExactPutVar': WHATEVER THE INPUT: true; the input reads as it did. -/
def fnExactPutVarSpec : ChangeSpec := { name := "fnExactPutVar", fn := fun _ => fun
  | [d] => { results := [.lit (.bool true)], args := [d] }
  | _ => none }
def fnExactPutVarRow : OpenClaim := { program := "ytijdnbenofnglaa", sum := "10b320bfaf1d546df58d220d592a9338803d04bd727369700f7a160548db76da", func := "loop.example/g00039/laws.FnExactPutVar", spec := "fnExactPutVar", apart := false }
def FnExactPutVarSaid : Prop := fnExactPutVarRow.holds Try.pinned (OpenSpec.ofChange fnExactPutVarSpec)

/-- ITS FALSE NEIGHBOUR: 'it returns false'. Refute it at one input. -/
def fnExactPutVarWrong : ChangeSpec := { name := "fnExactPutVar", fn := fun _ => fun
  | [d] => { results := [.lit (.bool false)], args := [d] }
  | _ => none }
def FnExactPutVarWrongFalsely : Prop := fnExactPutVarRow.holds Try.pinned (OpenSpec.ofChange fnExactPutVarWrong)

/-- 'laws.FnExactSum32': WHATEVER THE INPUT: true; the input reads as it did. -/
def fnExactSum32Spec : ChangeSpec := { name := "fnExactSum32", fn := fun _ => fun
  | [d] => { results := [.lit (.bool true)], args := [d] }
  | _ => none }
def fnExactSum32Row : OpenClaim := { program := "ytijdnbenofnglaa", sum := "10b320bfaf1d546df58d220d592a9338803d04bd727369700f7a160548db76da", func := "loop.example/g00039/laws.FnExactSum32", spec := "fnExactSum32", apart := false }
def FnExactSum32Said : Prop := fnExactSum32Row.holds Try.pinned (OpenSpec.ofChange fnExactSum32Spec)

/-- ITS FALSE NEIGHBOUR: 'it returns false'. Refute it at one input. -/
def fnExactSum32Wrong : ChangeSpec := { name := "fnExactSum32", fn := fun _ => fun
  | [d] => { results := [.lit (.bool false)], args := [d] }
  | _ => none }
def FnExactSum32WrongFalsely : Prop := fnExactSum32Row.holds Try.pinned (OpenSpec.ofChange fnExactSum32Wrong)

/-- 'laws.FnExactTakeVar': WHATEVER THE INPUT: true; the input reads as it did. -/
def fnExactTakeVarSpec : ChangeSpec := { name := "fnExactTakeVar", fn := fun _ => fun
  | [d1, d2] => { results := [.lit (.bool true)], args := [d1, d2] }
  | _ => none }
def fnExactTakeVarRow : OpenClaim := { program := "ytijdnbenofnglaa", sum := "10b320bfaf1d546df58d220d592a9338803d04bd727369700f7a160548db76da", func := "loop.example/g00039/laws.FnExactTakeVar", spec := "fnExactTakeVar", apart := false }
def FnExactTakeVarSaid : Prop := fnExactTakeVarRow.holds Try.pinned (OpenSpec.ofChange fnExactTakeVarSpec)

/-- ITS FALSE NEIGHBOUR: 'it returns false'. Refute it at one input. -/
def fnExactTakeVarWrong : ChangeSpec := { name := "fnExactTakeVar", fn := fun _ => fun
  | [d1, d2] => { results := [.lit (.bool false)], args := [d1, d2] }
  | _ => none }
def FnExactTakeVarWrongFalsely : Prop := fnExactTakeVarRow.holds Try.pinned (OpenSpec.ofChange fnExactTakeVarWrong)

/-- 'laws.FnExactCrashLog': WHATEVER THE INPUT: true; the input reads as it did. -/
def fnExactCrashLogSpec : ChangeSpec := { name := "fnExactCrashLog", fn := fun _ => fun
  | [d1, d2] => { results := [.lit (.bool true)], args := [d1, d2] }
  | _ => none }
def fnExactCrashLogRow : OpenClaim := { program := "ytijdnbenofnglaa", sum := "10b320bfaf1d546df58d220d592a9338803d04bd727369700f7a160548db76da", func := "loop.example/g00039/laws.FnExactCrashLog", spec := "fnExactCrashLog", apart := false }
def FnExactCrashLogSaid : Prop := fnExactCrashLogRow.holds Try.pinned (OpenSpec.ofChange fnExactCrashLogSpec)

/-- ITS FALSE NEIGHBOUR: 'it returns false'. Refute it at one input. -/
def fnExactCrashLogWrong : ChangeSpec := { name := "fnExactCrashLog", fn := fun _ => fun
  | [d1, d2] => { results := [.lit (.bool false)], args := [d1, d2] }
  | _ => none }
def FnExactCrashLogWrongFalsely : Prop := fnExactCrashLogRow.holds Try.pinned (OpenSpec.ofChange fnExactCrashLogWrong)

/-- 'laws.FnExactGoodSamples': WHATEVER THE INPUT: true; the input reads as it did. -/
def fnExactGoodSamplesSpec : ChangeSpec := { name := "fnExactGoodSamples", fn := fun _ => fun
  | [d] => { results := [.lit (.bool true)], args := [d] }
  | _ => none }
def fnExactGoodSamplesRow : OpenClaim := { program := "ytijdnbenofnglaa", sum := "10b320bfaf1d546df58d220d592a9338803d04bd727369700f7a160548db76da", func := "loop.example/g00039/laws.FnExactGoodSamples", spec := "fnExactGoodSamples", apart := false }
def FnExactGoodSamplesSaid : Prop := fnExactGoodSamplesRow.holds Try.pinned (OpenSpec.ofChange fnExactGoodSamplesSpec)

/-- ITS FALSE NEIGHBOUR: 'it returns false'. Refute it at one input. -/
def fnExactGoodSamplesWrong : ChangeSpec := { name := "fnExactGoodSamples", fn := fun _ => fun
  | [d] => { results := [.lit (.bool false)], args := [d] }
  | _ => none }
def FnExactGoodSamplesWrongFalsely : Prop := fnExactGoodSamplesRow.holds Try.pinned (OpenSpec.ofChange fnExactGoodSamplesWrong)

/-- 'laws.FnExactGoodBits': WHATEVER THE INPUT: true; the input reads as it did. -/
def fnExactGoodBitsSpec : ChangeSpec := { name := "fnExactGoodBits", fn := fun _ => fun
  | [d] => { results := [.lit (.bool true)], args := [d] }
  | _ => none }
def fnExactGoodBitsRow : OpenClaim := { program := "ytijdnbenofnglaa", sum := "10b320bfaf1d546df58d220d592a9338803d04bd727369700f7a160548db76da", func := "loop.example/g00039/laws.FnExactGoodBits", spec := "fnExactGoodBits", apart := false }
def FnExactGoodBitsSaid : Prop := fnExactGoodBitsRow.holds Try.pinned (OpenSpec.ofChange fnExactGoodBitsSpec)

/-- ITS FALSE NEIGHBOUR: 'it returns false'. Refute it at one input. -/
def fnExactGoodBitsWrong : ChangeSpec := { name := "fnExactGoodBits", fn := fun _ => fun
  | [d] => { results := [.lit (.bool false)], args := [d] }
  | _ => none }
def FnExactGoodBitsWrongFalsely : Prop := fnExactGoodBitsRow.holds Try.pinned (OpenSpec.ofChange fnExactGoodBitsWrong)

/-- 'laws.FnExactGoodPattern': WHATEVER THE INPUT: true; the input reads as it did. -/
def fnExactGoodPatternSpec : ChangeSpec := { name := "fnExactGoodPattern", fn := fun _ => fun
  | [d] => { results := [.lit (.bool true)], args := [d] }
  | _ => none }
def fnExactGoodPatternRow : OpenClaim := { program := "ytijdnbenofnglaa", sum := "10b320bfaf1d546df58d220d592a9338803d04bd727369700f7a160548db76da", func := "loop.example/g00039/laws.FnExactGoodPattern", spec := "fnExactGoodPattern", inPlace := ["internal/bytealg.IndexByteString"], unfollowed := true, recurses := true, apart := false }
def FnExactGoodPatternSaid : Prop := fnExactGoodPatternRow.holds Try.pinned (OpenSpec.ofChange fnExactGoodPatternSpec)

/-- ITS FALSE NEIGHBOUR: 'it returns false'. Refute it at one input. -/
def fnExactGoodPatternWrong : ChangeSpec := { name := "fnExactGoodPattern", fn := fun _ => fun
  | [d] => { results := [.lit (.bool false)], args := [d] }
  | _ => none }
def FnExactGoodPatternWrongFalsely : Prop := fnExactGoodPatternRow.holds Try.pinned (OpenSpec.ofChange fnExactGoodPatternWrong)

/- THE SECOND FORM. 'bulk': how many values and letters a reading holds, each counted each time it is reached (what is shared counts as often as it is met; a slice's spare places count too). A statement '..UptoSaid' is the law's where the arguments, and the package variables that the reading takes, are together of bulk at most 1048576: NARROWER than '..Said'. Prove '..Said' where nothing that the law and all that it calls make is longer than what came in: it says more and counts as full. Else prove '..UptoSaid'. A law counts once. -/
mutual
def uptoBulk {H : Type} : DataW H → Nat
  | .lit (.string bytes) => bytes.length + 1
  | .lit _ => 1
  | .nil => 1
  | .ptr d => uptoBulk d + 1
  | .slice elems spare => uptoBulkAll elems + uptoBulkAll spare + 1
  | .agg parts => uptoBulkAll parts + 1
  | .iface _ d => uptoBulk d + 1
  | .map entries => uptoBulkEntries entries + 1
  | .held _ => 1
def uptoBulkAll {H : Type} : List (DataW H) → Nat
  | [] => 0
  | d :: r => uptoBulk d + uptoBulkAll r
def uptoBulkEntries {H : Type} : List (Lit × DataW H) → Nat
  | [] => 0
  | x :: r => uptoBulkEntry x + uptoBulkEntries r
def uptoBulkEntry {H : Type} : Lit × DataW H → Nat
  | (.string bytes, d) => bytes.length + uptoBulk d + 1
  | (_, d) => uptoBulk d + 1
 end
def uptoSmall : (H : Type) → List (DataW H) → Bool := fun _ ds => decide (uptoBulkAll ds ≤ 1048576)
def OpenSpec.upto (s : _root_.Go.ChangeSpec) : _root_.Go.OpenSpec := { _root_.Go.OpenSpec.ofChange s with cond := some uptoSmall }

/-- 'laws.FnExactConstants', WHERE WHAT IT READS IS OF BULK AT MOST 1048576: true; the input reads as it did. -/
def fnExactConstantsUptoRow : OpenClaim := { program := "ytijdnbenofnglaa", sum := "10b320bfaf1d546df58d220d592a9338803d04bd727369700f7a160548db76da", func := "loop.example/g00039/laws.FnExactConstants", spec := "fnExactConstants", apart := false, narrowed := true }
def FnExactConstantsUptoSaid : Prop := fnExactConstantsUptoRow.holds Try.pinned (OpenSpec.upto fnExactConstantsSpec)

/-- 'laws.FnExactZigZag', WHERE WHAT IT READS IS OF BULK AT MOST 1048576: true; the input reads as it did. -/
def fnExactZigZagUptoRow : OpenClaim := { program := "ytijdnbenofnglaa", sum := "10b320bfaf1d546df58d220d592a9338803d04bd727369700f7a160548db76da", func := "loop.example/g00039/laws.FnExactZigZag", spec := "fnExactZigZag", apart := false, narrowed := true }
def FnExactZigZagUptoSaid : Prop := fnExactZigZagUptoRow.holds Try.pinned (OpenSpec.upto fnExactZigZagSpec)

/-- 'laws.FnExactUnZigZag', WHERE WHAT IT READS IS OF BULK AT MOST 1048576: true; the input reads as it did. -/
def fnExactUnZigZagUptoRow : OpenClaim := { program := "ytijdnbenofnglaa", sum := "10b320bfaf1d546df58d220d592a9338803d04bd727369700f7a160548db76da", func := "loop.example/g00039/laws.FnExactUnZigZag", spec := "fnExactUnZigZag", apart := false, narrowed := true }
def FnExactUnZigZagUptoSaid : Prop := fnExactUnZigZagUptoRow.holds Try.pinned (OpenSpec.upto fnExactUnZigZagSpec)

/-- 'laws.FnExactMix', WHERE WHAT IT READS IS OF BULK AT MOST 1048576: true; the input reads as it did. -/
def fnExactMixUptoRow : OpenClaim := { program := "ytijdnbenofnglaa", sum := "10b320bfaf1d546df58d220d592a9338803d04bd727369700f7a160548db76da", func := "loop.example/g00039/laws.FnExactMix", spec := "fnExactMix", apart := false, narrowed := true }
def FnExactMixUptoSaid : Prop := fnExactMixUptoRow.holds Try.pinned (OpenSpec.upto fnExactMixSpec)

/-- 'laws.FnVar', WHERE WHAT IT READS IS OF BULK AT MOST 1048576: true; the input reads as it did. -/
def fnVarUptoRow : OpenClaim := { program := "ytijdnbenofnglaa", sum := "10b320bfaf1d546df58d220d592a9338803d04bd727369700f7a160548db76da", func := "loop.example/g00039/laws.FnVar", spec := "fnVar", apart := false, narrowed := true }
def FnVarUptoSaid : Prop := fnVarUptoRow.holds Try.pinned (OpenSpec.upto fnVarSpec)

/-- 'laws.FnExactPutVar', WHERE WHAT IT READS IS OF BULK AT MOST 1048576: true; the input reads as it did. -/
def fnExactPutVarUptoRow : OpenClaim := { program := "ytijdnbenofnglaa", sum := "10b320bfaf1d546df58d220d592a9338803d04bd727369700f7a160548db76da", func := "loop.example/g00039/laws.FnExactPutVar", spec := "fnExactPutVar", apart := false, narrowed := true }
def FnExactPutVarUptoSaid : Prop := fnExactPutVarUptoRow.holds Try.pinned (OpenSpec.upto fnExactPutVarSpec)

/-- 'laws.FnExactSum32', WHERE WHAT IT READS IS OF BULK AT MOST 1048576: true; the input reads as it did. -/
def fnExactSum32UptoRow : OpenClaim := { program := "ytijdnbenofnglaa", sum := "10b320bfaf1d546df58d220d592a9338803d04bd727369700f7a160548db76da", func := "loop.example/g00039/laws.FnExactSum32", spec := "fnExactSum32", apart := false, narrowed := true }
def FnExactSum32UptoSaid : Prop := fnExactSum32UptoRow.holds Try.pinned (OpenSpec.upto fnExactSum32Spec)

/-- 'laws.FnExactTakeVar', WHERE WHAT IT READS IS OF BULK AT MOST 1048576: true; the input reads as it did. -/
def fnExactTakeVarUptoRow : OpenClaim := { program := "ytijdnbenofnglaa", sum := "10b320bfaf1d546df58d220d592a9338803d04bd727369700f7a160548db76da", func := "loop.example/g00039/laws.FnExactTakeVar", spec := "fnExactTakeVar", apart := false, narrowed := true }
def FnExactTakeVarUptoSaid : Prop := fnExactTakeVarUptoRow.holds Try.pinned (OpenSpec.upto fnExactTakeVarSpec)

/-- 'laws.FnExactCrashLog', WHERE WHAT IT READS IS OF BULK AT MOST 1048576: true; the input reads as it did. -/
def fnExactCrashLogUptoRow : OpenClaim := { program := "ytijdnbenofnglaa", sum := "10b320bfaf1d546df58d220d592a9338803d04bd727369700f7a160548db76da", func := "loop.example/g00039/laws.FnExactCrashLog", spec := "fnExactCrashLog", apart := false, narrowed := true }
def FnExactCrashLogUptoSaid : Prop := fnExactCrashLogUptoRow.holds Try.pinned (OpenSpec.upto fnExactCrashLogSpec)

/-- 'laws.FnExactGoodSamples', WHERE WHAT IT READS IS OF BULK AT MOST 1048576: true; the input reads as it did. -/
def fnExactGoodSamplesUptoRow : OpenClaim := { program := "ytijdnbenofnglaa", sum := "10b320bfaf1d546df58d220d592a9338803d04bd727369700f7a160548db76da", func := "loop.example/g00039/laws.FnExactGoodSamples", spec := "fnExactGoodSamples", apart := false, narrowed := true }
def FnExactGoodSamplesUptoSaid : Prop := fnExactGoodSamplesUptoRow.holds Try.pinned (OpenSpec.upto fnExactGoodSamplesSpec)

/-- 'laws.FnExactGoodBits', WHERE WHAT IT READS IS OF BULK AT MOST 1048576: true; the input reads as it did. -/
def fnExactGoodBitsUptoRow : OpenClaim := { program := "ytijdnbenofnglaa", sum := "10b320bfaf1d546df58d220d592a9338803d04bd727369700f7a160548db76da", func := "loop.example/g00039/laws.FnExactGoodBits", spec := "fnExactGoodBits", apart := false, narrowed := true }
def FnExactGoodBitsUptoSaid : Prop := fnExactGoodBitsUptoRow.holds Try.pinned (OpenSpec.upto fnExactGoodBitsSpec)

/-- 'laws.FnExactGoodPattern', WHERE WHAT IT READS IS OF BULK AT MOST 1048576: true; the input reads as it did. -/
def fnExactGoodPatternUptoRow : OpenClaim := { program := "ytijdnbenofnglaa", sum := "10b320bfaf1d546df58d220d592a9338803d04bd727369700f7a160548db76da", func := "loop.example/g00039/laws.FnExactGoodPattern", spec := "fnExactGoodPattern", inPlace := ["internal/bytealg.IndexByteString"], unfollowed := true, recurses := true, apart := false, narrowed := true }
def FnExactGoodPatternUptoSaid : Prop := fnExactGoodPatternUptoRow.holds Try.pinned (OpenSpec.upto fnExactGoodPatternSpec)

end Rows
end Go.Proofs.Ytijdnbenofnglaa
