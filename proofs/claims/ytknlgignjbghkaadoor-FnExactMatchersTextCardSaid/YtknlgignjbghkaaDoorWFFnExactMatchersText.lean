/- What the law FnExactMatchersText is told of its arguments' data: numbers in their kinds' ranges, lengths that fit. -/
import Derived.Test.YtknlgignjbghkaaDoorPrxg6f417n1
namespace Go.Proofs.YtknlgignjbghkaaDoor.WFFnExactMatchersText
open Go.RowKit Go.Proofs.YtknlgignjbghkaaDoor.Pr Go.Proofs.YtknlgignjbghkaaDoorW.PrintWords Go.Proofs.YtknlgignjbghkaaDoorW.PrintLast Go.Proofs.YtknlgignjbghkaaDoorW.PrintMore
def I64 (x : Int) : Prop := -9223372036854775808 ≤ x ∧ x ≤ 9223372036854775807
def U8 (x : Int) : Prop := 0 ≤ x ∧ x < 256
def wf44 (x : S44) : Prop := x.f0.size ≤ maxLen ∧ I64 x.f1 ∧ x.f2.size ≤ maxLen
/-- What is left to prove: the plain statement. -/
def Pure : Prop := ∀ (l0 : List (S44)), (l0.length ≤ maxLen ∧ ∀ y ∈ l0, wf44 y) → ∃ k, laws_FnExactMatchersText.f k l0 = some true
end Go.Proofs.YtknlgignjbghkaaDoor.WFFnExactMatchersText
