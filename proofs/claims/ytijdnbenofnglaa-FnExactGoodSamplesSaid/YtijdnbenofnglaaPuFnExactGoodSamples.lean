/- The plain statement of the law FnExactGoodSamples: for all arguments in range it answers true; no further condition. -/
import Derived.Test.YtijdnbenofnglaaPrx21
import Derived.Test.YtijdnbenofnglaaUB
import Derived.Test.YtijdnbenofnglaaUHSampleS
import Derived.Test.YtijdnbenofnglaaUGS
import Derived.Test.YtijdnbenofnglaaWFFnExactGoodSamples
namespace Go.Proofs.Ytijdnbenofnglaa.PuFnExactGoodSamples
open Go.RowKit Go.Proofs.Ytijdnbenofnglaa.Pr Go.Proofs.YtijdnbenofnglaaW.PrintWords Go.Proofs.YtijdnbenofnglaaW.PrintLast Go.Proofs.YtijdnbenofnglaaW.PrintMore Go.Proofs.Ytijdnbenofnglaa.U Go.Proofs.Ytijdnbenofnglaa.WFFnExactGoodSamples
set_option linter.unusedVariables false
set_option linter.unusedSimpArgs false

theorem pure : Pure := by
  intro l ⟨hm, hw⟩
  refine Ev.rounds (g := fun k => laws_FnExactGoodSamples.f k l) ?_
  obtain ⟨r, e, hr, hs⟩ := szSampleS l 1048576 (by omega) (by omega) hm
  unfold laws_FnExactGoodSamples.f
  refine ev_bind e (ev_ite (fun _ => ev_now _) (fun hn => ?_))
  have hl := hs (by omega)
  have hl2 : (l.map cv58).length ≤ 1048576 := by simpa using hl
  exact ev_bind (toSampleS l hl) (ev_bind (goodSamples_spec _ (by omega)) (ev_bind (toSampleS l hl) (ev_bind (goodSamples_impl _ (by omega)) (ev_neg (by simp) (ev_bind (toSampleS l hl) (ev_bind (eqSampleS _ hl2) (ev_pos rfl (ev_now _))))))))

end Go.Proofs.Ytijdnbenofnglaa.PuFnExactGoodSamples
