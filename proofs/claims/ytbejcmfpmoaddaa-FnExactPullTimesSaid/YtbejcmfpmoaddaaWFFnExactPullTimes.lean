/- What the law FnExactPullTimes is told of its arguments' data: numbers in their kinds' ranges, lengths that fit. -/
import Derived.Test.YtbejcmfpmoaddaaPrxg87244n6
namespace Go.Proofs.Ytbejcmfpmoaddaa.WFFnExactPullTimes
open Go.RowKit Go.Proofs.Ytbejcmfpmoaddaa.Pr Go.Proofs.YtbejcmfpmoaddaaW.PrintWords Go.Proofs.YtbejcmfpmoaddaaW.PrintLast Go.Proofs.YtbejcmfpmoaddaaW.PrintMore
def I64 (x : Int) : Prop := -9223372036854775808 ≤ x ∧ x ≤ 9223372036854775807
def U8 (x : Int) : Prop := 0 ≤ x ∧ x < 256
def wf71 (x : S71) : Prop := x.f0.size ≤ maxLen ∧ x.f1.size ≤ maxLen
def wf74 (x : S74) : Prop := I64 x.f0 ∧ (x.f1.length ≤ maxLen ∧ ∀ y ∈ x.f1, y.size ≤ maxLen) ∧ x.f2.size ≤ maxLen ∧ x.f3.size ≤ maxLen ∧ x.f4.size ≤ maxLen ∧ x.f5.size ≤ maxLen ∧ I64 x.f6
/-- What is left to prove: the plain statement. -/
def Pure : Prop := ∀ (l0_0 : List (S71)) (a0_1 : Int) (a0_2 : Int) (a0_3 : Bool) (l0_4 : List (S74)) (a1 : Int) (a2 : Int), (l0_0.length ≤ maxLen ∧ ∀ y ∈ l0_0, wf71 y) → I64 a0_1 → I64 a0_2 → (l0_4.length ≤ maxLen ∧ ∀ y ∈ l0_4, wf74 y) → I64 a1 → I64 a2 → ∃ k, laws_FnExactPullTimes.f k l0_0 a0_1 a0_2 a0_3 l0_4 a1 a2 = some true
end Go.Proofs.Ytbejcmfpmoaddaa.WFFnExactPullTimes
