/- What the law FnExactMergeSeries is told of its arguments' data: numbers in their kinds' ranges, lengths that fit. -/
import Derived.Test.YtfdbbpnmnogddaaPrxg4e368l2
namespace Go.Proofs.Ytfdbbpnmnogddaa.WFFnExactMergeSeries
open Go.RowKit Go.Proofs.Ytfdbbpnmnogddaa.Pr Go.Proofs.YtfdbbpnmnogddaaW.PrintWords Go.Proofs.YtfdbbpnmnogddaaW.PrintLast Go.Proofs.YtfdbbpnmnogddaaW.PrintMore
def I64 (x : Int) : Prop:=-9223372036854775808 ≤ x ∧ x ≤ 9223372036854775807
def U8 (x : Int) : Prop:=0 ≤ x ∧ x < 256
def wf52 (x : S52) : Prop:=x.f0.size ≤ maxLen ∧ x.f1.size ≤ maxLen
def wf116 (x : S116) : Prop:=I64 x.f0 ∧ I64 x.f1
def wf65 (x : S65) : Prop:=(x.f0.length ≤ maxLen ∧ ∀ y ∈ x.f0,wf52 y) ∧ (x.f1.length ≤ maxLen ∧ ∀ y ∈ x.f1,wf116 y)
def Pure : Prop:=∀ (l0 : List (S65)) (l1 : List (S65)),(l0.length ≤ maxLen ∧ ∀ y ∈ l0,wf65 y) → (l1.length ≤ maxLen ∧ ∀ y ∈ l1,wf65 y) → ∃ k,laws_FnExactMergeSeries.f k l0 l1 = some true
end Go.Proofs.Ytfdbbpnmnogddaa.WFFnExactMergeSeries
