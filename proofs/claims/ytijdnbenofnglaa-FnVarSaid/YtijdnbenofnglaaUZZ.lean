/- Plain lemmas over the printed functions, for the laws' plain statements; each theorem states its own conditions. -/
import Derived.Test.YtijdnbenofnglaaPrx3
import Derived.Test.YtijdnbenofnglaaUB
import Derived.Test.YtijdnbenofnglaaUX
namespace Go.Proofs.Ytijdnbenofnglaa.U
open Go.RowKit Go.Proofs.Ytijdnbenofnglaa.Pr Go.Proofs.YtijdnbenofnglaaW.PrintWords Go.Proofs.YtijdnbenofnglaaW.PrintLast Go.Proofs.YtijdnbenofnglaaW.PrintMore
set_option linter.unusedVariables false
set_option linter.unusedSimpArgs false

def zz (n : Int) : Int := if n < 0 then -2 * n - 1 else 2 * n
def zzw (n : Int) : Int := wrap64 (zz n)
theorem impl_zz {n : Int} (h0 : -9223372036854775808 ≤ n) (h1 : n ≤ 9223372036854775807) : impl_ZigZag.f n = some (zzw n) := by
  unfold impl_ZigZag.f zzw zz
  have hw : -9223372036854775808 ≤ wrap64 (n * 2) ∧ wrap64 (n * 2) ≤ 9223372036854775807 := by unfold wrap64; omega
  by_cases h : n < 0
  · rw [if_pos h, show n / 9223372036854775808 = -1 from by omega, xor1 hw.1 hw.2]
    congr 1
    unfold wrap64
    omega
  · rw [if_neg h, show n / 9223372036854775808 = 0 from by omega, xor0 hw.1 hw.2]
    congr 1
    unfold wrap64
    omega

end Go.Proofs.Ytijdnbenofnglaa.U
