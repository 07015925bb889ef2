/- What the law FnExactGoodMatchers is told of its arguments' data: numbers in their kinds' ranges, lengths that fit. -/
import Derived.Test.YtnnlgbpfdnaalaaPrxgef801n1
namespace Go.Proofs.Ytnnlgbpfdnaalaa.WFFnExactGoodMatchers
open Go.RowKit Go.Proofs.Ytnnlgbpfdnaalaa.Pr Go.Proofs.YtnnlgbpfdnaalaaW.PrintWords Go.Proofs.YtnnlgbpfdnaalaaW.PrintLast Go.Proofs.YtnnlgbpfdnaalaaW.PrintMore
def I64 (x : Int) : Prop := -9223372036854775808 ≤ x ∧ x ≤ 9223372036854775807
def U8 (x : Int) : Prop := 0 ≤ x ∧ x < 256
def wf86 (x : S86) : Prop := x.f0.size ≤ maxLen ∧ I64 x.f1 ∧ x.f2.size ≤ maxLen
/-- What is left to prove: the plain statement. -/
def Pure : Prop := ∀ (l0 : List (S86)), (l0.length ≤ maxLen ∧ ∀ y ∈ l0, wf86 y) → ∃ k, laws_FnExactGoodMatchers.f k l0 = some true
end Go.Proofs.Ytnnlgbpfdnaalaa.WFFnExactGoodMatchers
