/- What the law FnExactFillValue is told of its arguments' data: numbers in their kinds' ranges, lengths that fit. -/
import Derived.Test.YtbejcmfpmoaddaaPrxgb38b7n1
namespace Go.Proofs.Ytbejcmfpmoaddaa.WFFnExactFillValue
open Go.RowKit Go.Proofs.Ytbejcmfpmoaddaa.Pr Go.Proofs.YtbejcmfpmoaddaaW.PrintWords Go.Proofs.YtbejcmfpmoaddaaW.PrintLast Go.Proofs.YtbejcmfpmoaddaaW.PrintMore
def I64 (x : Int) : Prop := -9223372036854775808 ≤ x ∧ x ≤ 9223372036854775807
def U8 (x : Int) : Prop := 0 ≤ x ∧ x < 256
/-- What is left to prove: the plain statement. -/
def Pure : Prop := ∀ (a0 : ByteArray) (l1 : List ByteArray), a0.size ≤ maxLen → (l1.length ≤ maxLen ∧ ∀ y ∈ l1, y.size ≤ maxLen) → ∃ k, laws_FnExactFillValue.f k a0 l1 = some true
end Go.Proofs.Ytbejcmfpmoaddaa.WFFnExactFillValue
