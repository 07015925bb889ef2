/- What the law FnExactGoodFamily is told of its arguments' data: numbers in their kinds' ranges, lengths that fit. -/
import Derived.Test.YtfdbbpnmnogddaaGreatDoorPrxgaa1fel2
namespace Go.Proofs.YtfdbbpnmnogddaaGreatDoor.WFFnExactGoodFamily
open Go.RowKit Go.Proofs.YtfdbbpnmnogddaaGreatDoor.Pr Go.Proofs.YtfdbbpnmnogddaaGreatDoorW.PrintWords Go.Proofs.YtfdbbpnmnogddaaGreatDoorW.PrintLast Go.Proofs.YtfdbbpnmnogddaaGreatDoorW.PrintMore
def I64 (x : Int) : Prop:=-9223372036854775808 ≤ x ∧ x ≤ 9223372036854775807
def U8 (x : Int) : Prop:=0 ≤ x ∧ x < 256
def wf102 (x : S102) : Prop:=x.f0.size ≤ maxLen ∧ x.f1.size ≤ maxLen
def wf61 (x : S61) : Prop:=True ∧ (x.f1.length ≤ maxLen ∧ ∀ y ∈ x.f1,wf102 y) ∧ I64 x.f2
def wf63 (x : S63) : Prop:=x.f0.size ≤ maxLen ∧ (x.f1.length ≤ maxLen ∧ ∀ y ∈ x.f1,wf102 y) ∧ I64 x.f2 ∧ True ∧ I64 x.f4 ∧ wf61 x.f5
def Pure : Prop:=∀ (a0_0 : ByteArray) (a0_1 : Int) (a0_2 : ByteArray) (l0_3 : List (S63)),a0_0.size ≤ maxLen → I64 a0_1 → a0_2.size ≤ maxLen → (l0_3.length ≤ maxLen ∧ ∀ y ∈ l0_3,wf63 y) → ∃ k,laws_FnExactGoodFamily.f k a0_0 a0_1 a0_2 l0_3 = some true
end Go.Proofs.YtfdbbpnmnogddaaGreatDoor.WFFnExactGoodFamily
