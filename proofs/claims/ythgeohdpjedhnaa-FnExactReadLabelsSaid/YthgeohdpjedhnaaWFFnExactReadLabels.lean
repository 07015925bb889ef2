/- What the law FnExactReadLabels is told of its arguments' data: numbers in their kinds' ranges, lengths that fit. -/
import Derived.Test.YthgeohdpjedhnaaPrxg6ca49n2
namespace Go.Proofs.Ythgeohdpjedhnaa.WFFnExactReadLabels
open Go.RowKit Go.Proofs.Ythgeohdpjedhnaa.Pr Go.Proofs.YthgeohdpjedhnaaW.PrintWords Go.Proofs.YthgeohdpjedhnaaW.PrintLast Go.Proofs.YthgeohdpjedhnaaW.PrintMore
def I64 (x : Int) : Prop := -9223372036854775808 ≤ x ∧ x ≤ 9223372036854775807
def U8 (x : Int) : Prop := 0 ≤ x ∧ x < 256
/-- What is left to prove: the plain statement. -/
def Pure : Prop := ∀ (a0 : ByteArray), a0.size ≤ maxLen → ∃ k, laws_FnExactReadLabels.f k a0 = some true
end Go.Proofs.Ythgeohdpjedhnaa.WFFnExactReadLabels
