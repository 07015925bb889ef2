/- What the law FnExactApplyRelabel is told of its arguments' data: numbers in their kinds' ranges, lengths that fit. -/
import Derived.Test.YtacaelfdmlegdaaGreatDoorPrxge7dd9l1
namespace Go.Proofs.YtacaelfdmlegdaaGreatDoor.WFFnExactApplyRelabel
open Go.RowKit Go.Proofs.YtacaelfdmlegdaaGreatDoor.Pr Go.Proofs.YtacaelfdmlegdaaGreatDoorW.PrintWords Go.Proofs.YtacaelfdmlegdaaGreatDoorW.PrintLast Go.Proofs.YtacaelfdmlegdaaGreatDoorW.PrintMore
def I64 (x : Int) : Prop:=-9223372036854775808 ≤ x ∧ x ≤ 9223372036854775807
def U8 (x : Int) : Prop:=0 ≤ x ∧ x < 256
def wf49 (x : S49) : Prop:=x.f0.size ≤ maxLen ∧ x.f1.size ≤ maxLen
def Pure : Prop:=∀ (l0 : List (S49)) (a1_0 : Int) (l1_1 : List ByteArray) (a1_2 : ByteArray) (a1_3 : ByteArray) (a1_4 : ByteArray) (a1_5 : ByteArray) (a1_6 : Int),(l0.length ≤ maxLen ∧ ∀ y ∈ l0,wf49 y) → I64 a1_0 → (l1_1.length ≤ maxLen ∧ ∀ y ∈ l1_1,y.size ≤ maxLen) → a1_2.size ≤ maxLen → a1_3.size ≤ maxLen → a1_4.size ≤ maxLen → a1_5.size ≤ maxLen → I64 a1_6 → ∃ k,laws_FnExactApplyRelabel.f k l0 a1_0 l1_1 a1_2 a1_3 a1_4 a1_5 a1_6 = some true
end Go.Proofs.YtacaelfdmlegdaaGreatDoor.WFFnExactApplyRelabel
