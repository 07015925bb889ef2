/- What the law FnExactPostOr is told of its arguments' data: numbers in their kinds' ranges, lengths that fit. -/
import Derived.Test.YtnnlgbpfdnaalaaPrxg7a97fn1
namespace Go.Proofs.Ytnnlgbpfdnaalaa.WFFnExactPostOr
open Go.RowKit Go.Proofs.Ytnnlgbpfdnaalaa.Pr Go.Proofs.YtnnlgbpfdnaalaaW.PrintWords Go.Proofs.YtnnlgbpfdnaalaaW.PrintLast Go.Proofs.YtnnlgbpfdnaalaaW.PrintMore
def I64 (x : Int) : Prop := -9223372036854775808 ≤ x ∧ x ≤ 9223372036854775807
def U8 (x : Int) : Prop := 0 ≤ x ∧ x < 256
/-- What is left to prove: the plain statement. -/
def Pure : Prop := ∀ (l0 : List Int) (l1 : List Int), (l0.length ≤ maxLen ∧ ∀ y ∈ l0, I64 y) → (l1.length ≤ maxLen ∧ ∀ y ∈ l1, I64 y) → ∃ k, laws_FnExactPostOr.f k l0 l1 = some true
end Go.Proofs.Ytnnlgbpfdnaalaa.WFFnExactPostOr
