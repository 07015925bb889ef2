/- The plain statement of the law FnExactGoodPattern: for all arguments in range it answers true; no further condition. -/
import Derived.Test.YtijdnbenofnglaaPrxg43da4n1
import Derived.Test.YtijdnbenofnglaaVFnExactGoodPattern
import Derived.Test.YtijdnbenofnglaaWFFnExactGoodPattern
namespace Go.Proofs.Ytijdnbenofnglaa.PuFnExactGoodPattern
open Go.RowKit Go.Proofs.Ytijdnbenofnglaa.Pr Go.Proofs.YtijdnbenofnglaaW.PrintWords Go.Proofs.YtijdnbenofnglaaW.PrintLast Go.Proofs.YtijdnbenofnglaaW.PrintMore Go.Proofs.Ytijdnbenofnglaa.U Go.Proofs.Ytijdnbenofnglaa.WFFnExactGoodPattern
set_option linter.unusedVariables false
set_option linter.unusedSimpArgs false

theorem pure : Pure := by
  intro s hs
  refine Ev.rounds (g := fun k => laws_FnExactGoodPattern.f k s) ?_
  unfold laws_FnExactGoodPattern.f
  refine ev_ite (fun _ => ev_now _) (fun hn => ?_)
  exact ev_bind (pat_spec s (by omega)) (ev_bind (pat_impl s (by omega)) (ev_neg (by simp) (ev_now _)))

end Go.Proofs.Ytijdnbenofnglaa.PuFnExactGoodPattern
