/- What the law FnExactDropLabels is told of its arguments' data: numbers in their kinds' ranges, lengths that fit. -/
import Derived.Test.YthgeohdpjedhnaaPrxg6eff6n1
namespace Go.Proofs.Ythgeohdpjedhnaa.WFFnExactDropLabels
open Go.RowKit Go.Proofs.Ythgeohdpjedhnaa.Pr Go.Proofs.YthgeohdpjedhnaaW.PrintWords Go.Proofs.YthgeohdpjedhnaaW.PrintLast Go.Proofs.YthgeohdpjedhnaaW.PrintMore
def I64 (x : Int) : Prop := -9223372036854775808 ≤ x ∧ x ≤ 9223372036854775807
def U8 (x : Int) : Prop := 0 ≤ x ∧ x < 256
def wf84 (x : S84) : Prop := x.f0.size ≤ maxLen ∧ x.f1.size ≤ maxLen
/-- What is left to prove: the plain statement. -/
def Pure : Prop := ∀ (l0 : List (S84)) (l1 : List ByteArray), (l0.length ≤ maxLen ∧ ∀ y ∈ l0, wf84 y) → (l1.length ≤ maxLen ∧ ∀ y ∈ l1, y.size ≤ maxLen) → ∃ k, laws_FnExactDropLabels.f k l0 l1 = some true
end Go.Proofs.Ythgeohdpjedhnaa.WFFnExactDropLabels
