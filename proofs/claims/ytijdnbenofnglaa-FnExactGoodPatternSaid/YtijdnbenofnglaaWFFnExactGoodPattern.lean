/- What the law FnExactGoodPattern is told of its arguments' data: numbers in their kinds' ranges, lengths that fit. -/
import Derived.Test.YtijdnbenofnglaaPrxg43da4n1
namespace Go.Proofs.Ytijdnbenofnglaa.WFFnExactGoodPattern
open Go.RowKit Go.Proofs.Ytijdnbenofnglaa.Pr Go.Proofs.YtijdnbenofnglaaW.PrintWords Go.Proofs.YtijdnbenofnglaaW.PrintLast Go.Proofs.YtijdnbenofnglaaW.PrintMore
def I64 (x : Int) : Prop := -9223372036854775808 ≤ x ∧ x ≤ 9223372036854775807
def U8 (x : Int) : Prop := 0 ≤ x ∧ x < 256
/-- What is left to prove: the plain statement. -/
def Pure : Prop := ∀ (a0 : ByteArray), a0.size ≤ maxLen → ∃ k, laws_FnExactGoodPattern.f k a0 = some true
end Go.Proofs.Ytijdnbenofnglaa.WFFnExactGoodPattern
