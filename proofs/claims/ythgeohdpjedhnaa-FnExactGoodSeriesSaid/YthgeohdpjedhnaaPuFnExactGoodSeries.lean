/- The plain statement of the law FnExactGoodSeries: for all arguments in range it answers true; no further condition. -/
import Derived.Test.YthgeohdpjedhnaaPrxgfafd5n1
import Derived.Test.YthgeohdpjedhnaaVFnExactGoodSeries
import Derived.Test.YthgeohdpjedhnaaWFFnExactGoodSeries
namespace Go.Proofs.Ythgeohdpjedhnaa.PuFnExactGoodSeries
open Go.RowKit Go.Proofs.Ythgeohdpjedhnaa.Pr Go.Proofs.YthgeohdpjedhnaaW.PrintWords Go.Proofs.YthgeohdpjedhnaaW.PrintLast Go.Proofs.YthgeohdpjedhnaaW.PrintMore Go.Proofs.Ythgeohdpjedhnaa.U Go.Proofs.Ythgeohdpjedhnaa.WFFnExactGoodSeries
set_option linter.unusedVariables false
set_option linter.unusedSimpArgs false

theorem pure : Pure := by
  intro l ⟨hm, hw⟩
  refine Ev.rounds (g := fun k => laws_FnExactGoodSeries.f k l) ?_
  obtain ⟨r, e, hr, hs⟩ := szSeriesS l 1048576 (by omega) (by omega) hm hw
  unfold laws_FnExactGoodSeries.f
  refine ev_bind e (ev_ite (fun _ => ev_now _) (fun hn => ?_))
  have hl := hs (by omega)
  have hl2 : (l.map cv100).length ≤ 1048576 := by simpa using hl.1
  have hf := fitS_cv l hl
  exact ev_bind (toSeriesS l hl) (ev_bind (goodSeries_spec _ hf) (ev_bind (toSeriesS l hl) (ev_bind (goodSeries_impl _ hf) (ev_neg (by simp) (ev_bind (toSeriesS l hl) (ev_bind (eqSeriesS _ hl2 (seS_cv l hl)) (ev_pos rfl (ev_now _))))))))

end Go.Proofs.Ythgeohdpjedhnaa.PuFnExactGoodSeries
