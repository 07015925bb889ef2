/- Plain lemmas over the printed functions, for the laws' plain statements; each theorem states its own conditions. -/
import Derived.Test.YtijdnbenofnglaaPrx5
import Derived.Test.YtijdnbenofnglaaUB
import Derived.Test.YtijdnbenofnglaaUX
namespace Go.Proofs.Ytijdnbenofnglaa.U
open Go.RowKit Go.Proofs.Ytijdnbenofnglaa.Pr Go.Proofs.YtijdnbenofnglaaW.PrintWords Go.Proofs.YtijdnbenofnglaaW.PrintLast Go.Proofs.YtijdnbenofnglaaW.PrintMore
set_option linter.unusedVariables false
set_option linter.unusedSimpArgs false

def uzz (n : Int) : Int := if n % 2 = 1 then -(n % 18446744073709551616 / 2) - 1 else n % 18446744073709551616 / 2
theorem impl_uzz (n : Int) : impl_UnZigZag.f n = some (uzz n) := by
  unfold impl_UnZigZag.f uzz
  rw [and1, wu64]
  have hw : wrap64 (n % 18446744073709551616 / 2) = n % 18446744073709551616 / 2 := w64 (by omega) (by omega)
  rw [hw]
  by_cases h : n % 2 = 1
  · rw [if_pos h, h, w64 (by omega) (by omega), xor1 (by omega) (by omega)]
  · rw [if_neg h, show n % 2 = 0 from by omega, w64 (by omega) (by omega)]
    exact congrArg some (xor0 (by omega) (by omega))

end Go.Proofs.Ytijdnbenofnglaa.U
