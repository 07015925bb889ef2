/- What the law FnExactValuesOf is told of its arguments' data: numbers in their kinds' ranges, lengths that fit. -/
import Derived.Test.YthkhflhmnjgbnaaPrxg18cf1n1
namespace Go.Proofs.Ythkhflhmnjgbnaa.WFFnExactValuesOf
open Go.RowKit Go.Proofs.Ythkhflhmnjgbnaa.Pr Go.Proofs.YthkhflhmnjgbnaaW.PrintWords Go.Proofs.YthkhflhmnjgbnaaW.PrintLast Go.Proofs.YthkhflhmnjgbnaaW.PrintMore
def I64 (x : Int) : Prop := -9223372036854775808 ≤ x ∧ x ≤ 9223372036854775807
def U8 (x : Int) : Prop := 0 ≤ x ∧ x < 256
def wf80 (x : S80) : Prop := x.f0.size ≤ maxLen ∧ x.f1.size ≤ maxLen
def wf85 (x : S85) : Prop := I64 x.f0 ∧ I64 x.f1
def wf39 (x : S39) : Prop := (x.f0.length ≤ maxLen ∧ ∀ y ∈ x.f0, wf80 y) ∧ (x.f1.length ≤ maxLen ∧ ∀ y ∈ x.f1, wf85 y)
/-- What is left to prove: the plain statement. -/
def Pure : Prop := ∀ (l0 : List (S39)) (a1 : ByteArray), (l0.length ≤ maxLen ∧ ∀ y ∈ l0, wf39 y) → a1.size ≤ maxLen → ∃ k, laws_FnExactValuesOf.f k l0 a1 = some true
end Go.Proofs.Ythkhflhmnjgbnaa.WFFnExactValuesOf
