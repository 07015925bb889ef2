/- What the law FnExactGoodBits is told of its arguments' data: numbers in their kinds' ranges, lengths that fit. -/
import Derived.Test.YtijdnbenofnglaaPrx24
namespace Go.Proofs.Ytijdnbenofnglaa.WFFnExactGoodBits
open Go.RowKit Go.Proofs.Ytijdnbenofnglaa.Pr Go.Proofs.YtijdnbenofnglaaW.PrintWords Go.Proofs.YtijdnbenofnglaaW.PrintLast Go.Proofs.YtijdnbenofnglaaW.PrintMore
def I64 (x : Int) : Prop := -9223372036854775808 ≤ x ∧ x ≤ 9223372036854775807
def U8 (x : Int) : Prop := 0 ≤ x ∧ x < 256
/-- What is left to prove: the plain statement. -/
def Pure : Prop := ∀ (l0_0 : List Int) (a0_1 : Int), (l0_0.length ≤ maxLen ∧ ∀ y ∈ l0_0, U8 y) → I64 a0_1 → ∃ k, laws_FnExactGoodBits.f k l0_0 a0_1 = some true
end Go.Proofs.Ytijdnbenofnglaa.WFFnExactGoodBits
