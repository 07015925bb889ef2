/- What the law FnExactPatternParts is told of its arguments' data: numbers in their kinds' ranges, lengths that fit. -/
import Derived.Test.YtnnlgbpfdnaalaaPrxg95654n1
namespace Go.Proofs.Ytnnlgbpfdnaalaa.WFFnExactPatternParts
open Go.RowKit Go.Proofs.Ytnnlgbpfdnaalaa.Pr Go.Proofs.YtnnlgbpfdnaalaaW.PrintWords Go.Proofs.YtnnlgbpfdnaalaaW.PrintLast Go.Proofs.YtnnlgbpfdnaalaaW.PrintMore
def I64 (x : Int) : Prop := -9223372036854775808 ≤ x ∧ x ≤ 9223372036854775807
def U8 (x : Int) : Prop := 0 ≤ x ∧ x < 256
/-- What is left to prove: the plain statement. -/
def Pure : Prop := ∀ (a0 : ByteArray) (a1 : ByteArray), a0.size ≤ maxLen → a1.size ≤ maxLen → ∃ k, laws_FnExactPatternParts.f k a0 a1 = some true
end Go.Proofs.Ytnnlgbpfdnaalaa.WFFnExactPatternParts
