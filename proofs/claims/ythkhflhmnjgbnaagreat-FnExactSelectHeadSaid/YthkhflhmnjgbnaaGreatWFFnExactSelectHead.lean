/- What the law FnExactSelectHead is told of its arguments' data: numbers in their kinds' ranges, lengths that fit. -/
import Derived.Test.YthkhflhmnjgbnaaGreatPrxgc64c7n8
namespace Go.Proofs.YthkhflhmnjgbnaaGreat.WFFnExactSelectHead
open Go.RowKit Go.Proofs.YthkhflhmnjgbnaaGreat.Pr Go.Proofs.YthkhflhmnjgbnaaGreatW.PrintWords Go.Proofs.YthkhflhmnjgbnaaGreatW.PrintLast Go.Proofs.YthkhflhmnjgbnaaGreatW.PrintMore
def I64 (x : Int) : Prop := -9223372036854775808 ≤ x ∧ x ≤ 9223372036854775807
def U8 (x : Int) : Prop := 0 ≤ x ∧ x < 256
def wf104 (x : S104) : Prop := x.f0.size ≤ maxLen ∧ x.f1.size ≤ maxLen
def wf111 (x : S111) : Prop := I64 x.f0 ∧ I64 x.f1
def wf65 (x : S65) : Prop := (x.f0.length ≤ maxLen ∧ ∀ y ∈ x.f0, wf104 y) ∧ (x.f1.length ≤ maxLen ∧ ∀ y ∈ x.f1, wf111 y)
def wf45 (x : S45) : Prop := x.f0.size ≤ maxLen ∧ I64 x.f1 ∧ x.f2.size ≤ maxLen
/-- What is left to prove: the plain statement. -/
def Pure : Prop := ∀ (a0_0 : Int) (a0_1 : Int) (a0_2 : Int) (l0_3 : List (S65)) (l1 : List (S45)) (a2 : Int) (a3 : Int), I64 a0_0 → I64 a0_1 → I64 a0_2 → (l0_3.length ≤ maxLen ∧ ∀ y ∈ l0_3, wf65 y) → (l1.length ≤ maxLen ∧ ∀ y ∈ l1, wf45 y) → I64 a2 → I64 a3 → ∃ k, laws_FnExactSelectHead.f k a0_0 a0_1 a0_2 l0_3 l1 a2 a3 = some true
end Go.Proofs.YthkhflhmnjgbnaaGreat.WFFnExactSelectHead
