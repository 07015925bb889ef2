/- Plain lemmas over the printed functions, for the laws' plain statements; each theorem states its own conditions. -/
import Derived.Test.YtijdnbenofnglaaPrx18
import Derived.Test.YtijdnbenofnglaaPrx21
import Derived.Test.YtijdnbenofnglaaUB
namespace Go.Proofs.Ytijdnbenofnglaa.U
open Go.RowKit Go.Proofs.Ytijdnbenofnglaa.Pr Go.Proofs.YtijdnbenofnglaaW.PrintWords Go.Proofs.YtijdnbenofnglaaW.PrintLast Go.Proofs.YtijdnbenofnglaaW.PrintMore
set_option linter.unusedVariables false
set_option linter.unusedSimpArgs false

def cv58 (x : S58) : S56 := ⟨x.f0, x.f1⟩
theorem toSample (x : S58) : Ev (fun _ => laws_toSample.f x.f0 x.f1) (x.f0, x.f1) := by
  unfold laws_toSample.f
  exact ev_now _
theorem eqSample (x : S56) : Ev (fun _ => laws_eqSample.f x.f0 x.f1 x.f0 x.f1) true := ev_eq (by simp [laws_eqSample.f])

end Go.Proofs.Ytijdnbenofnglaa.U
