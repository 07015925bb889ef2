/- What the law FnExactNewHead is told of its arguments' data: numbers in their kinds' ranges, lengths that fit. -/
import Derived.Test.YtjapdjkckhcelaaPrxg2d03dn2
namespace Go.Proofs.Ytjapdjkckhcelaa.WFFnExactNewHead
open Go.RowKit Go.Proofs.Ytjapdjkckhcelaa.Pr Go.Proofs.YtjapdjkckhcelaaW.PrintWords Go.Proofs.YtjapdjkckhcelaaW.PrintLast Go.Proofs.YtjapdjkckhcelaaW.PrintMore
def I64 (x : Int) : Prop := -9223372036854775808 ≤ x ∧ x ≤ 9223372036854775807
def U8 (x : Int) : Prop := 0 ≤ x ∧ x < 256
/-- What is left to prove: the plain statement. -/
def Pure : Prop := ∀ (a0 : Int) (a1 : Int), I64 a0 → I64 a1 → ∃ k, laws_FnExactNewHead.f k a0 a1 = some true
end Go.Proofs.Ytjapdjkckhcelaa.WFFnExactNewHead
