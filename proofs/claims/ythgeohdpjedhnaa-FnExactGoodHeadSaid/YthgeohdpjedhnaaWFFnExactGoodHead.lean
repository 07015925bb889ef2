/- What the law FnExactGoodHead is told of its arguments' data: numbers in their kinds' ranges, lengths that fit. -/
import Derived.Test.YthgeohdpjedhnaaPrxg3ed36n2
namespace Go.Proofs.Ythgeohdpjedhnaa.WFFnExactGoodHead
open Go.RowKit Go.Proofs.Ythgeohdpjedhnaa.Pr Go.Proofs.YthgeohdpjedhnaaW.PrintWords Go.Proofs.YthgeohdpjedhnaaW.PrintLast Go.Proofs.YthgeohdpjedhnaaW.PrintMore
def I64 (x : Int) : Prop := -9223372036854775808 ≤ x ∧ x ≤ 9223372036854775807
def U8 (x : Int) : Prop := 0 ≤ x ∧ x < 256
def wf84 (x : S84) : Prop := x.f0.size ≤ maxLen ∧ x.f1.size ≤ maxLen
def wf175 (x : S175) : Prop := I64 x.f0 ∧ I64 x.f1
def wf100 (x : S100) : Prop := (x.f0.length ≤ maxLen ∧ ∀ y ∈ x.f0, wf84 y) ∧ (x.f1.length ≤ maxLen ∧ ∀ y ∈ x.f1, wf175 y)
/-- What is left to prove: the plain statement. -/
def Pure : Prop := ∀ (a0_0 : Int) (a0_1 : Int) (a0_2 : Int) (l0_3 : List (S100)), I64 a0_0 → I64 a0_1 → I64 a0_2 → (l0_3.length ≤ maxLen ∧ ∀ y ∈ l0_3, wf100 y) → ∃ k, laws_FnExactGoodHead.f k a0_0 a0_1 a0_2 l0_3 = some true
end Go.Proofs.Ythgeohdpjedhnaa.WFFnExactGoodHead
