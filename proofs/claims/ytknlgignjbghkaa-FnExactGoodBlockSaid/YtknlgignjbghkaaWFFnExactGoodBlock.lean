/- What the law FnExactGoodBlock is told of its arguments' data: numbers in their kinds' ranges, lengths that fit. -/
import Derived.Test.YtknlgignjbghkaaPrxgeba1cn5
namespace Go.Proofs.Ytknlgignjbghkaa.WFFnExactGoodBlock
open Go.RowKit Go.Proofs.Ytknlgignjbghkaa.Pr Go.Proofs.YtknlgignjbghkaaW.PrintWords Go.Proofs.YtknlgignjbghkaaW.PrintLast Go.Proofs.YtknlgignjbghkaaW.PrintMore
def I64 (x : Int) : Prop := -9223372036854775808 ≤ x ∧ x ≤ 9223372036854775807
def U8 (x : Int) : Prop := 0 ≤ x ∧ x < 256
def wf105 (x : S105) : Prop := x.f0.size ≤ maxLen ∧ x.f1.size ≤ maxLen
def wf180 (x : S180) : Prop := I64 x.f0 ∧ I64 x.f1
def wf98 (x : S98) : Prop := (x.f0.length ≤ maxLen ∧ ∀ y ∈ x.f0, wf105 y) ∧ (x.f1.length ≤ maxLen ∧ ∀ y ∈ x.f1, wf180 y)
def wf130 (x : S130) : Prop := (x.f0.length ≤ maxLen ∧ ∀ y ∈ x.f0, wf105 y) ∧ I64 x.f1 ∧ I64 x.f2
/-- What is left to prove: the plain statement. -/
def Pure : Prop := ∀ (a0_0 : Int) (a0_1 : Int) (a0_2 : Int) (l0_3 : List (S98)) (l0_4 : List (S130)), I64 a0_0 → I64 a0_1 → I64 a0_2 → (l0_3.length ≤ maxLen ∧ ∀ y ∈ l0_3, wf98 y) → (l0_4.length ≤ maxLen ∧ ∀ y ∈ l0_4, wf130 y) → ∃ k, laws_FnExactGoodBlock.f k a0_0 a0_1 a0_2 l0_3 l0_4 = some true
end Go.Proofs.Ytknlgignjbghkaa.WFFnExactGoodBlock
