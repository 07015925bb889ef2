/- What the law FnExactFits is told of its arguments' data: numbers in their kinds' ranges, lengths that fit. -/
import Derived.Test.YtnnlgbpfdnaalaaPrxgfb3dfn1
namespace Go.Proofs.Ytnnlgbpfdnaalaa.WFFnExactFits
open Go.RowKit Go.Proofs.Ytnnlgbpfdnaalaa.Pr Go.Proofs.YtnnlgbpfdnaalaaW.PrintWords Go.Proofs.YtnnlgbpfdnaalaaW.PrintLast Go.Proofs.YtnnlgbpfdnaalaaW.PrintMore
def I64 (x : Int) : Prop := -9223372036854775808 ≤ x ∧ x ≤ 9223372036854775807
def U8 (x : Int) : Prop := 0 ≤ x ∧ x < 256
def wf86 (x : S86) : Prop := x.f0.size ≤ maxLen ∧ I64 x.f1 ∧ x.f2.size ≤ maxLen
def wf103 (x : S103) : Prop := x.f0.size ≤ maxLen ∧ x.f1.size ≤ maxLen
/-- What is left to prove: the plain statement. -/
def Pure : Prop := ∀ (l0 : List (S86)) (l1 : List (S103)), (l0.length ≤ maxLen ∧ ∀ y ∈ l0, wf86 y) → (l1.length ≤ maxLen ∧ ∀ y ∈ l1, wf103 y) → ∃ k, laws_FnExactFits.f k l0 l1 = some true
end Go.Proofs.Ytnnlgbpfdnaalaa.WFFnExactFits
