/- The plain statement of the law FnExactGoodLabels: for all arguments in range it answers true; no further condition. -/
import Derived.Test.YtjapdjkckhcelaaPrxgbe693n1
import Derived.Test.YtjapdjkckhcelaaUB
import Derived.Test.YtjapdjkckhcelaaUHLabelS
import Derived.Test.YtjapdjkckhcelaaULABELS
import Derived.Test.YtjapdjkckhcelaaULFIT
import Derived.Test.YtjapdjkckhcelaaWFFnExactGoodLabels
namespace Go.Proofs.Ytjapdjkckhcelaa.PuFnExactGoodLabels
open Go.RowKit Go.Proofs.Ytjapdjkckhcelaa.Pr Go.Proofs.YtjapdjkckhcelaaW.PrintWords Go.Proofs.YtjapdjkckhcelaaW.PrintLast Go.Proofs.YtjapdjkckhcelaaW.PrintMore Go.Proofs.Ytjapdjkckhcelaa.U Go.Proofs.Ytjapdjkckhcelaa.WFFnExactGoodLabels
set_option linter.unusedVariables false
set_option linter.unusedSimpArgs false

theorem pure : Pure := by
  intro l ⟨hm, hw⟩
  refine Ev.rounds (g := fun k => laws_FnExactGoodLabels.f k l) ?_
  obtain ⟨r, e, hr, hs⟩ := szLabelS l 1048576 (by omega) (by omega) hm hw
  unfold laws_FnExactGoodLabels.f
  refine ev_bind e (ev_ite (fun _ => ev_now _) (fun hn => ?_))
  have hl := hs (by omega)
  have hl2 : (l.map cv103).length ≤ 1048576 := by simpa using hl.1
  have hf := fitL_cv l hl
  exact ev_bind (toLabelS l hl) (ev_bind (goodLabels_spec _ hf) (ev_bind (toLabelS l hl) (ev_bind (goodLabels_impl _ hf) (ev_neg (by simp) (ev_bind (toLabelS l hl) (ev_bind (eqLabelS _ hl2) (ev_pos rfl (ev_now _))))))))

end Go.Proofs.Ytjapdjkckhcelaa.PuFnExactGoodLabels
