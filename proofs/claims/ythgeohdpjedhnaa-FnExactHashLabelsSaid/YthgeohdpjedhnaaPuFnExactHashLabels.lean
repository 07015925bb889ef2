/- The plain statement of the law FnExactHashLabels: for all arguments in range it answers true; no further condition. -/
import Derived.Test.YthgeohdpjedhnaaPrxga22e2n1
import Derived.Test.YthgeohdpjedhnaaVFnExactHashLabels
import Derived.Test.YthgeohdpjedhnaaWFFnExactHashLabels
namespace Go.Proofs.Ythgeohdpjedhnaa.PuFnExactHashLabels
open Go.RowKit Go.Proofs.Ythgeohdpjedhnaa.Pr Go.Proofs.YthgeohdpjedhnaaW.PrintWords Go.Proofs.YthgeohdpjedhnaaW.PrintLast Go.Proofs.YthgeohdpjedhnaaW.PrintMore Go.Proofs.Ythgeohdpjedhnaa.U Go.Proofs.Ythgeohdpjedhnaa.WFFnExactHashLabels
set_option linter.unusedVariables false
set_option linter.unusedSimpArgs false

theorem pure : Pure := by
  intro l ⟨hm, hw⟩
  refine Ev.rounds (g := fun k => laws_FnExactHashLabels.f k l) ?_
  unfold laws_FnExactHashLabels.f
  obtain ⟨r, e, hr, hs⟩ := szLabelS l 1048576 (by omega) (by omega) hm hw
  refine ev_bind e (ev_ite (fun _ => ev_now _) (fun hn => ?_))
  have hl := hs (by omega)
  have hl2 : (l.map cv84).length ≤ 1048576 := by simpa using hl.1
  have tl := toLabelS l hl
  obtain ⟨h, e1, e2⟩ := hash_two _ (fitL_cv l hl)
  exact ev_bind tl (ev_bind e2 (ev_bind tl (ev_bind e1 (ev_pos rfl (ev_bind tl (ev_bind (eqLabelS _ hl2) (ev_pos rfl (ev_now _))))))))

end Go.Proofs.Ythgeohdpjedhnaa.PuFnExactHashLabels
