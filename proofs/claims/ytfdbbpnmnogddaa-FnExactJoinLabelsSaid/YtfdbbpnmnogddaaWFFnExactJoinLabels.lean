/- What the law FnExactJoinLabels is told of its arguments' data: numbers in their kinds' ranges, lengths that fit. -/
import Derived.Test.YtfdbbpnmnogddaaPrxg6b3cbl2
namespace Go.Proofs.Ytfdbbpnmnogddaa.WFFnExactJoinLabels
open Go.RowKit Go.Proofs.Ytfdbbpnmnogddaa.Pr Go.Proofs.YtfdbbpnmnogddaaW.PrintWords Go.Proofs.YtfdbbpnmnogddaaW.PrintLast Go.Proofs.YtfdbbpnmnogddaaW.PrintMore
def I64 (x : Int) : Prop:=-9223372036854775808 ≤ x ∧ x ≤ 9223372036854775807
def U8 (x : Int) : Prop:=0 ≤ x ∧ x < 256
def wf52 (x : S52) : Prop:=x.f0.size ≤ maxLen ∧ x.f1.size ≤ maxLen
def wf76 (x : S76) : Prop:=I64 x.f0 ∧ (x.f1.length ≤ maxLen ∧ ∀ y ∈ x.f1,y.size ≤ maxLen) ∧ x.f2.size ≤ maxLen ∧ x.f3.size ≤ maxLen ∧ x.f4.size ≤ maxLen ∧ x.f5.size ≤ maxLen ∧ I64 x.f6
def Pure : Prop:=∀ (l0_0 : List (S52)) (a0_1 : Int) (a0_2 : Int) (a0_3 : Bool) (l0_4 : List (S76)) (l1 : List (S52)),(l0_0.length ≤ maxLen ∧ ∀ y ∈ l0_0,wf52 y) → I64 a0_1 → I64 a0_2 → (l0_4.length ≤ maxLen ∧ ∀ y ∈ l0_4,wf76 y) → (l1.length ≤ maxLen ∧ ∀ y ∈ l1,wf52 y) → ∃ k,laws_FnExactJoinLabels.f k l0_0 a0_1 a0_2 a0_3 l0_4 l1 = some true
end Go.Proofs.Ytfdbbpnmnogddaa.WFFnExactJoinLabels
