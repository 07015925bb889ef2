/- Plain lemmas over the printed functions, for the laws' plain statements; each theorem states its own conditions. -/
import Derived.Test.YtjapdjkckhcelaaPrxg12584n1
import Derived.Test.YtjapdjkckhcelaaPrxg1cf53n1
import Derived.Test.YtjapdjkckhcelaaUB
namespace Go.Proofs.Ytjapdjkckhcelaa.U
open Go.RowKit Go.Proofs.Ytjapdjkckhcelaa.Pr Go.Proofs.YtjapdjkckhcelaaW.PrintWords Go.Proofs.YtjapdjkckhcelaaW.PrintLast Go.Proofs.YtjapdjkckhcelaaW.PrintMore
set_option linter.unusedVariables false
set_option linter.unusedSimpArgs false

def cv90 (x : S90) : S37 := ⟨x.f0, x.f1⟩
theorem toSample (x : S90) : Ev (fun _ => laws_toSample.f x.f0 x.f1) (x.f0, x.f1) := by
  unfold laws_toSample.f
  exact ev_now _
theorem eqSample (x : S37) : Ev (fun _ => laws_eqSample.f x.f0 x.f1 x.f0 x.f1) true := ev_eq (by simp [laws_eqSample.f])

end Go.Proofs.Ytjapdjkckhcelaa.U
