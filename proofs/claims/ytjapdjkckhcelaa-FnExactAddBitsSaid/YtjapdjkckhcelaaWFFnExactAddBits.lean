/- What the law FnExactAddBits is told of its arguments' data: numbers in their kinds' ranges, lengths that fit. -/
import Derived.Test.YtjapdjkckhcelaaPrxge3834n3
namespace Go.Proofs.Ytjapdjkckhcelaa.WFFnExactAddBits
open Go.RowKit Go.Proofs.Ytjapdjkckhcelaa.Pr Go.Proofs.YtjapdjkckhcelaaW.PrintWords Go.Proofs.YtjapdjkckhcelaaW.PrintLast Go.Proofs.YtjapdjkckhcelaaW.PrintMore
def I64 (x : Int) : Prop := -9223372036854775808 ≤ x ∧ x ≤ 9223372036854775807
def U8 (x : Int) : Prop := 0 ≤ x ∧ x < 256
/-- What is left to prove: the plain statement. -/
def Pure : Prop := ∀ (l0_0 : List Int) (a0_1 : Int) (a1 : Int) (a2 : Int), (l0_0.length ≤ maxLen ∧ ∀ y ∈ l0_0, U8 y) → I64 a0_1 → I64 a1 → I64 a2 → ∃ k, laws_FnExactAddBits.f k l0_0 a0_1 a1 a2 = some true
end Go.Proofs.Ytjapdjkckhcelaa.WFFnExactAddBits
