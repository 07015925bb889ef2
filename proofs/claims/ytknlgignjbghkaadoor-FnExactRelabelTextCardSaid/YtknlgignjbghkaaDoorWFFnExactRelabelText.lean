/- What the law FnExactRelabelText is told of its arguments' data: numbers in their kinds' ranges, lengths that fit. -/
import Derived.Test.YtknlgignjbghkaaDoorPrxged182n6
namespace Go.Proofs.YtknlgignjbghkaaDoor.WFFnExactRelabelText
open Go.RowKit Go.Proofs.YtknlgignjbghkaaDoor.Pr Go.Proofs.YtknlgignjbghkaaDoorW.PrintWords Go.Proofs.YtknlgignjbghkaaDoorW.PrintLast Go.Proofs.YtknlgignjbghkaaDoorW.PrintMore
def I64 (x : Int) : Prop := -9223372036854775808 ≤ x ∧ x ≤ 9223372036854775807
def U8 (x : Int) : Prop := 0 ≤ x ∧ x < 256
/-- What is left to prove: the plain statement. -/
def Pure : Prop := ∀ (a0_0 : Int) (l0_1 : List ByteArray) (a0_2 : ByteArray) (a0_3 : ByteArray) (a0_4 : ByteArray) (a0_5 : ByteArray) (a0_6 : Int), I64 a0_0 → (l0_1.length ≤ maxLen ∧ ∀ y ∈ l0_1, y.size ≤ maxLen) → a0_2.size ≤ maxLen → a0_3.size ≤ maxLen → a0_4.size ≤ maxLen → a0_5.size ≤ maxLen → I64 a0_6 → ∃ k, laws_FnExactRelabelText.f k a0_0 l0_1 a0_2 a0_3 a0_4 a0_5 a0_6 = some true
end Go.Proofs.YtknlgignjbghkaaDoor.WFFnExactRelabelText
