/- What the law FnExactGoodSamples is told of its arguments' data: numbers in their kinds' ranges, lengths that fit. -/
import Derived.Test.YtijdnbenofnglaaPrx21
namespace Go.Proofs.Ytijdnbenofnglaa.WFFnExactGoodSamples
open Go.RowKit Go.Proofs.Ytijdnbenofnglaa.Pr Go.Proofs.YtijdnbenofnglaaW.PrintWords Go.Proofs.YtijdnbenofnglaaW.PrintLast Go.Proofs.YtijdnbenofnglaaW.PrintMore
def I64 (x : Int) : Prop := -9223372036854775808 ≤ x ∧ x ≤ 9223372036854775807
def U8 (x : Int) : Prop := 0 ≤ x ∧ x < 256
def wf58 (x : S58) : Prop := I64 x.f0 ∧ I64 x.f1
/-- What is left to prove: the plain statement. -/
def Pure : Prop := ∀ (l0 : List (S58)), (l0.length ≤ maxLen ∧ ∀ y ∈ l0, wf58 y) → ∃ k, laws_FnExactGoodSamples.f k l0 = some true
end Go.Proofs.Ytijdnbenofnglaa.WFFnExactGoodSamples
