/- What the law FnExactGoodLabels is told of its arguments' data: numbers in their kinds' ranges, lengths that fit. -/
import Derived.Test.YtjapdjkckhcelaaPrxgbe693n1
namespace Go.Proofs.Ytjapdjkckhcelaa.WFFnExactGoodLabels
open Go.RowKit Go.Proofs.Ytjapdjkckhcelaa.Pr Go.Proofs.YtjapdjkckhcelaaW.PrintWords Go.Proofs.YtjapdjkckhcelaaW.PrintLast Go.Proofs.YtjapdjkckhcelaaW.PrintMore
def I64 (x : Int) : Prop := -9223372036854775808 ≤ x ∧ x ≤ 9223372036854775807
def U8 (x : Int) : Prop := 0 ≤ x ∧ x < 256
def wf103 (x : S103) : Prop := x.f0.size ≤ maxLen ∧ x.f1.size ≤ maxLen
/-- What is left to prove: the plain statement. -/
def Pure : Prop := ∀ (l0 : List (S103)), (l0.length ≤ maxLen ∧ ∀ y ∈ l0, wf103 y) → ∃ k, laws_FnExactGoodLabels.f k l0 = some true
end Go.Proofs.Ytjapdjkckhcelaa.WFFnExactGoodLabels
