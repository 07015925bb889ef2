/- What the law FnExactOffsetOf is told of its arguments' data: numbers in their kinds' ranges, lengths that fit. -/
import Derived.Test.YtnnlgbpfdnaalaaPrxgc5f60n1
namespace Go.Proofs.Ytnnlgbpfdnaalaa.WFFnExactOffsetOf
open Go.RowKit Go.Proofs.Ytnnlgbpfdnaalaa.Pr Go.Proofs.YtnnlgbpfdnaalaaW.PrintWords Go.Proofs.YtnnlgbpfdnaalaaW.PrintLast Go.Proofs.YtnnlgbpfdnaalaaW.PrintMore
def I64 (x : Int) : Prop := -9223372036854775808 ≤ x ∧ x ≤ 9223372036854775807
def U8 (x : Int) : Prop := 0 ≤ x ∧ x < 256
def wf103 (x : S103) : Prop := x.f0.size ≤ maxLen ∧ x.f1.size ≤ maxLen
def wf39 (x : S39) : Prop := I64 x.f0 ∧ (x.f1.length ≤ maxLen ∧ ∀ y ∈ x.f1, y.size ≤ maxLen) ∧ x.f2.size ≤ maxLen ∧ x.f3.size ≤ maxLen ∧ x.f4.size ≤ maxLen ∧ x.f5.size ≤ maxLen ∧ I64 x.f6
/-- What is left to prove: the plain statement. -/
def Pure : Prop := ∀ (l0_0 : List (S103)) (a0_1 : Int) (a0_2 : Int) (a0_3 : Bool) (l0_4 : List (S39)), (l0_0.length ≤ maxLen ∧ ∀ y ∈ l0_0, wf103 y) → I64 a0_1 → I64 a0_2 → (l0_4.length ≤ maxLen ∧ ∀ y ∈ l0_4, wf39 y) → ∃ k, laws_FnExactOffsetOf.f k l0_0 a0_1 a0_2 a0_3 l0_4 = some true
end Go.Proofs.Ytnnlgbpfdnaalaa.WFFnExactOffsetOf
