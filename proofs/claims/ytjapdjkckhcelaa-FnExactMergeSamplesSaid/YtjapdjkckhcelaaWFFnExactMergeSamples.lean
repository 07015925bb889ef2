/- What the law FnExactMergeSamples is told of its arguments' data: numbers in their kinds' ranges, lengths that fit. -/
import Derived.Test.YtjapdjkckhcelaaPrxg6b803n5
namespace Go.Proofs.Ytjapdjkckhcelaa.WFFnExactMergeSamples
open Go.RowKit Go.Proofs.Ytjapdjkckhcelaa.Pr Go.Proofs.YtjapdjkckhcelaaW.PrintWords Go.Proofs.YtjapdjkckhcelaaW.PrintLast Go.Proofs.YtjapdjkckhcelaaW.PrintMore
def I64 (x : Int) : Prop := -9223372036854775808 ≤ x ∧ x ≤ 9223372036854775807
def U8 (x : Int) : Prop := 0 ≤ x ∧ x < 256
def wf90 (x : S90) : Prop := I64 x.f0 ∧ I64 x.f1
/-- What is left to prove: the plain statement. -/
def Pure : Prop := ∀ (l0 : List (S90)) (l1 : List (S90)), (l0.length ≤ maxLen ∧ ∀ y ∈ l0, wf90 y) → (l1.length ≤ maxLen ∧ ∀ y ∈ l1, wf90 y) → ∃ k, laws_FnExactMergeSamples.f k l0 l1 = some true
end Go.Proofs.Ytjapdjkckhcelaa.WFFnExactMergeSamples
