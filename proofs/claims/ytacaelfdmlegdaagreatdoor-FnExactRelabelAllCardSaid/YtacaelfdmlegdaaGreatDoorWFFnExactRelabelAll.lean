/- What the law FnExactRelabelAll is told of its arguments' data: numbers in their kinds' ranges, lengths that fit. -/
import Derived.Test.YtacaelfdmlegdaaGreatDoorPrxg074fal1
namespace Go.Proofs.YtacaelfdmlegdaaGreatDoor.WFFnExactRelabelAll
open Go.RowKit Go.Proofs.YtacaelfdmlegdaaGreatDoor.Pr Go.Proofs.YtacaelfdmlegdaaGreatDoorW.PrintWords Go.Proofs.YtacaelfdmlegdaaGreatDoorW.PrintLast Go.Proofs.YtacaelfdmlegdaaGreatDoorW.PrintMore
def I64 (x : Int) : Prop:=-9223372036854775808 ≤ x ∧ x ≤ 9223372036854775807
def U8 (x : Int) : Prop:=0 ≤ x ∧ x < 256
def wf49 (x : S49) : Prop:=x.f0.size ≤ maxLen ∧ x.f1.size ≤ maxLen
def wf25 (x : S25) : Prop:=I64 x.f0 ∧ (x.f1.length ≤ maxLen ∧ ∀ y ∈ x.f1,y.size ≤ maxLen) ∧ x.f2.size ≤ maxLen ∧ x.f3.size ≤ maxLen ∧ x.f4.size ≤ maxLen ∧ x.f5.size ≤ maxLen ∧ I64 x.f6
def Pure : Prop:=∀ (l0 : List (S49)) (l1 : List (S25)),(l0.length ≤ maxLen ∧ ∀ y ∈ l0,wf49 y) → (l1.length ≤ maxLen ∧ ∀ y ∈ l1,wf25 y) → ∃ k,laws_FnExactRelabelAll.f k l0 l1 = some true
end Go.Proofs.YtacaelfdmlegdaaGreatDoor.WFFnExactRelabelAll
