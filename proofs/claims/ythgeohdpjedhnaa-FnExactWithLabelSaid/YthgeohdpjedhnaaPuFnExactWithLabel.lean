/- The plain statement of the law FnExactWithLabel: for all arguments in range it answers true; no further condition. -/
import Derived.Test.YthgeohdpjedhnaaPrxgc6e1bn3
import Derived.Test.YthgeohdpjedhnaaUB
import Derived.Test.YthgeohdpjedhnaaUWITH
import Derived.Test.YthgeohdpjedhnaaUHLabelS
import Derived.Test.YthgeohdpjedhnaaULFIT
import Derived.Test.YthgeohdpjedhnaaWFFnExactWithLabel
namespace Go.Proofs.Ythgeohdpjedhnaa.PuFnExactWithLabel
open Go.RowKit Go.Proofs.Ythgeohdpjedhnaa.Pr Go.Proofs.YthgeohdpjedhnaaW.PrintWords Go.Proofs.YthgeohdpjedhnaaW.PrintLast Go.Proofs.YthgeohdpjedhnaaW.PrintMore Go.Proofs.Ythgeohdpjedhnaa.U Go.Proofs.Ythgeohdpjedhnaa.WFFnExactWithLabel
set_option linter.unusedVariables false
set_option linter.unusedSimpArgs false

theorem pure : Pure := by
  intro l n v ⟨hm, hw⟩ hn hv
  refine Ev.rounds (g := fun k => laws_FnExactWithLabel.f k l n v) ?_
  unfold laws_FnExactWithLabel.f
  refine ev_ite (fun _ => ev_now _) (fun h1 => ev_ite (fun _ => ev_now _) (fun h2 => ?_))
  obtain ⟨r, e, hr, hs⟩ := szLabelS l 1048576 (by omega) (by omega) hm hw
  refine ev_bind e (ev_ite (fun _ => ev_now _) (fun hn => ?_))
  have hl := hs (by omega)
  have hl2 : (l.map cv84).length ≤ 1048576 := by simpa using hl.1
  have tl := toLabelS l hl
  obtain ⟨r, hr, e1, e2⟩ := with_two _ (fitL_cv l hl) hl2 n v (by omega) (by omega)
  obtain ⟨y1, c1, m1, _, a1, b1⟩ := markLabelS _ hl2 1 (by omega) (by omega)
  obtain ⟨y3, c3, m3, h3, a3, b3⟩ := markLabelS r hr 1 (by omega) (by omega)
  have ev := eqLabelS r hr
  refine ev_bind tl (ev_bind e2 (ev_bind tl (ev_bind e1 (ev_bind ev (ev_pos rfl (ev_bind tl (ev_bind (eqLabelS _ hl2) (ev_pos rfl (ev_bind m1 (ev_neg (by omega) (ev_bind ev ?_)))))))))))
  exact ev_step (fun _ => laws_FnExactWithLabel.j0.eq_2 ..) (ev_neg (by simp) (ev_bind m3 (ev_bind h3 (ev_neg (by omega) (ev_pos rfl (ev_bind tl (ev_bind e1 (ev_bind ev (ev_pos rfl (ev_bind h3 (ev_neg (by omega) (ev_pos rfl (ev_now _)))))))))))))

end Go.Proofs.Ythgeohdpjedhnaa.PuFnExactWithLabel
