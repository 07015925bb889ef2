/- The plain statement of the law FnExactReadLabels: for all arguments in range it answers true; no further condition. -/
import Derived.Test.YthgeohdpjedhnaaPrxg6ca49n2
import Derived.Test.YthgeohdpjedhnaaVFnExactReadLabels
import Derived.Test.YthgeohdpjedhnaaWFFnExactReadLabels
namespace Go.Proofs.Ythgeohdpjedhnaa.PuFnExactReadLabels
open Go.RowKit Go.Proofs.Ythgeohdpjedhnaa.Pr Go.Proofs.YthgeohdpjedhnaaW.PrintWords Go.Proofs.YthgeohdpjedhnaaW.PrintLast Go.Proofs.YthgeohdpjedhnaaW.PrintMore Go.Proofs.Ythgeohdpjedhnaa.U Go.Proofs.Ythgeohdpjedhnaa.WFFnExactReadLabels
set_option linter.unusedVariables false
set_option linter.unusedSimpArgs false

theorem pure : Pure := by
  intro s hs
  refine Ev.rounds (g := fun k => laws_FnExactReadLabels.f k s) ?_
  unfold laws_FnExactReadLabels.f
  refine ev_ite (fun _ => ev_now _) (fun h1 => ?_)
  have e1 := readLabels_spec s (by omega)
  have e2 := readLabels_impl s (by omega)
  have hr := readL_len s
  generalize readL s = r at e1 e2 hr
  obtain ⟨l, b⟩ := r
  have hl : l.length ≤ 1048576 := Nat.le_trans hr (by omega)
  obtain ⟨y1, c1, m1, hh1, a1, b1⟩ := markLabelS l hl 1 (by omega) (by omega)
  have ev := eqLabelS l hl
  refine ev_bind e1 (ev_bind e2 (ev_bind ev (ev_pos rfl ?_)))
  refine ev_step (fun _ => laws_FnExactReadLabels.j0.eq_2 ..) (ev_neg (by simp) (ev_bind m1 (ev_bind hh1 (ev_neg (by omega) (ev_pos rfl (ev_bind e2 (ev_bind ev (ev_pos rfl ?_))))))))
  exact ev_step (fun _ => laws_FnExactReadLabels.j1.eq_2 ..) (ev_neg (by simp) (ev_bind hh1 (ev_neg (by omega) (ev_pos rfl (ev_now _)))))

end Go.Proofs.Ythgeohdpjedhnaa.PuFnExactReadLabels
