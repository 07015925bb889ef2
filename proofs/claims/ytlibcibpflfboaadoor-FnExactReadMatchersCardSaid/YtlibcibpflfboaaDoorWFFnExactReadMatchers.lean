/- What the law FnExactReadMatchers is told of its arguments' data: numbers in their kinds' ranges, lengths that fit. -/
import Derived.Test.YtlibcibpflfboaaDoorPrxgfda1fn3
namespace Go.Proofs.YtlibcibpflfboaaDoor.WFFnExactReadMatchers
open Go.RowKit Go.Proofs.YtlibcibpflfboaaDoor.Pr Go.Proofs.YtlibcibpflfboaaDoorW.PrintWords Go.Proofs.YtlibcibpflfboaaDoorW.PrintLast Go.Proofs.YtlibcibpflfboaaDoorW.PrintMore
def I64 (x : Int) : Prop := -9223372036854775808 ≤ x ∧ x ≤ 9223372036854775807
def U8 (x : Int) : Prop := 0 ≤ x ∧ x < 256
/-- What is left to prove: the plain statement. -/
def Pure : Prop := ∀ (a0 : ByteArray), a0.size ≤ maxLen → ∃ k, laws_FnExactReadMatchers.f k a0 = some true
end Go.Proofs.YtlibcibpflfboaaDoor.WFFnExactReadMatchers
