/- What the law FnExactSampleAt is told of its arguments' data: numbers in their kinds' ranges, lengths that fit. -/
import Derived.Test.YtjapdjkckhcelaaPrxg1d1fdn1
namespace Go.Proofs.Ytjapdjkckhcelaa.WFFnExactSampleAt
open Go.RowKit Go.Proofs.Ytjapdjkckhcelaa.Pr Go.Proofs.YtjapdjkckhcelaaW.PrintWords Go.Proofs.YtjapdjkckhcelaaW.PrintLast Go.Proofs.YtjapdjkckhcelaaW.PrintMore
def I64 (x : Int) : Prop := -9223372036854775808 ≤ x ∧ x ≤ 9223372036854775807
def U8 (x : Int) : Prop := 0 ≤ x ∧ x < 256
def wf90 (x : S90) : Prop := I64 x.f0 ∧ I64 x.f1
/-- What is left to prove: the plain statement. -/
def Pure : Prop := ∀ (l0 : List (S90)) (a1 : Int) (a2 : Int), (l0.length ≤ maxLen ∧ ∀ y ∈ l0, wf90 y) → I64 a1 → I64 a2 → ∃ k, laws_FnExactSampleAt.f k l0 a1 a2 = some true
end Go.Proofs.Ytjapdjkckhcelaa.WFFnExactSampleAt
