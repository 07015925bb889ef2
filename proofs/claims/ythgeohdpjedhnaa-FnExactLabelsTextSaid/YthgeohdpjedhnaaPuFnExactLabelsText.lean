/- The plain statement of the law FnExactLabelsText: for all arguments in range it answers true; no further condition. -/
import Derived.Test.YthgeohdpjedhnaaPrxg435a2n1
import Derived.Test.YthgeohdpjedhnaaVFnExactLabelsText
import Derived.Test.YthgeohdpjedhnaaWFFnExactLabelsText
namespace Go.Proofs.Ythgeohdpjedhnaa.PuFnExactLabelsText
open Go.RowKit Go.Proofs.Ythgeohdpjedhnaa.Pr Go.Proofs.YthgeohdpjedhnaaW.PrintWords Go.Proofs.YthgeohdpjedhnaaW.PrintLast Go.Proofs.YthgeohdpjedhnaaW.PrintMore Go.Proofs.Ythgeohdpjedhnaa.U Go.Proofs.Ythgeohdpjedhnaa.WFFnExactLabelsText
set_option linter.unusedVariables false
set_option linter.unusedSimpArgs false

theorem pure : Pure := by
  intro l ⟨hm, hw⟩
  refine Ev.rounds (g := fun k => laws_FnExactLabelsText.f k l) ?_
  unfold laws_FnExactLabelsText.f
  obtain ⟨r, e, hr, hs⟩ := szLabelS l 1048576 (by omega) (by omega) hm hw
  refine ev_bind e (ev_ite (fun _ => ev_now _) (fun hn => ?_))
  have hl := hs (by omega)
  have hl2 : (l.map cv84).length ≤ 1048576 := by simpa using hl.1
  have tl := toLabelS l hl
  refine ev_bind tl (ev_bind (text_spec _ (fitL_cv l hl)) (ev_bind tl (ev_bind (text_impl _ (fitL_cv l hl)) (ev_pos rfl (ev_bind tl (ev_bind (eqLabelS _ hl2) (ev_pos rfl (ev_now _))))))))

end Go.Proofs.Ythgeohdpjedhnaa.PuFnExactLabelsText
