/- What the law FnExactCrashLog is told of its arguments' data: numbers in their kinds' ranges, lengths that fit. -/
import Derived.Test.YtijdnbenofnglaaPrx17
namespace Go.Proofs.Ytijdnbenofnglaa.WFFnExactCrashLog
open Go.RowKit Go.Proofs.Ytijdnbenofnglaa.Pr Go.Proofs.YtijdnbenofnglaaW.PrintWords Go.Proofs.YtijdnbenofnglaaW.PrintLast Go.Proofs.YtijdnbenofnglaaW.PrintMore
def I64 (x : Int) : Prop := -9223372036854775808 ≤ x ∧ x ≤ 9223372036854775807
def U8 (x : Int) : Prop := 0 ≤ x ∧ x < 256
/-- What is left to prove: the plain statement. -/
def Pure : Prop := ∀ (l0 : List Int) (a1 : Int), (l0.length ≤ maxLen ∧ ∀ y ∈ l0, U8 y) → I64 a1 → ∃ k, laws_FnExactCrashLog.f k l0 a1 = some true
end Go.Proofs.Ytijdnbenofnglaa.WFFnExactCrashLog
