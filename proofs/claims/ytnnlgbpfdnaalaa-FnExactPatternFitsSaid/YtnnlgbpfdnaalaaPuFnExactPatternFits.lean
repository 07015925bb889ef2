/- The plain statement of the law FnExactPatternFits: for all arguments in range it answers true; no further condition. -/
import Derived.Test.YtnnlgbpfdnaalaaPrxgfcf4bn1
import Derived.Test.YtnnlgbpfdnaalaaVFnExactPatternFits
import Derived.Test.YtnnlgbpfdnaalaaWFFnExactPatternFits
namespace Go.Proofs.Ytnnlgbpfdnaalaa.PuFnExactPatternFits
open Go.RowKit Go.Proofs.Ytnnlgbpfdnaalaa.Pr Go.Proofs.YtnnlgbpfdnaalaaW.PrintWords Go.Proofs.YtnnlgbpfdnaalaaW.PrintLast Go.Proofs.YtnnlgbpfdnaalaaW.PrintMore Go.Proofs.Ytnnlgbpfdnaalaa.U Go.Proofs.Ytnnlgbpfdnaalaa.WFFnExactPatternFits
set_option linter.unusedVariables false
set_option linter.unusedSimpArgs false

theorem pure : Pure := by
  intro p s _ _
  refine Ev.rounds (g := fun k => laws_FnExactPatternFits.f k p s) ?_
  unfold laws_FnExactPatternFits.f
  refine ev_ite (fun _ => ev_now _) (fun h1 => ev_ite (fun _ => ev_now _) (fun h2 => ?_))
  exact ev_bind (pf_spec p s (by omega) (by omega)) (ev_bind (pf_impl p s (by omega) (by omega)) (ev_neg (by simp) (ev_now _)))

end Go.Proofs.Ytnnlgbpfdnaalaa.PuFnExactPatternFits
