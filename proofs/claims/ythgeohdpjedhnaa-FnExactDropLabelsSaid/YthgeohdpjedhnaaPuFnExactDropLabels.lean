/- The plain statement of the law FnExactDropLabels: for all arguments in range it answers true; no further condition. -/
import Derived.Test.YthgeohdpjedhnaaPrxg6eff6n1
import Derived.Test.YthgeohdpjedhnaaVFnExactDropLabels
import Derived.Test.YthgeohdpjedhnaaWFFnExactDropLabels
namespace Go.Proofs.Ythgeohdpjedhnaa.PuFnExactDropLabels
open Go.RowKit Go.Proofs.Ythgeohdpjedhnaa.Pr Go.Proofs.YthgeohdpjedhnaaW.PrintWords Go.Proofs.YthgeohdpjedhnaaW.PrintLast Go.Proofs.YthgeohdpjedhnaaW.PrintMore Go.Proofs.Ythgeohdpjedhnaa.U Go.Proofs.Ythgeohdpjedhnaa.WFFnExactDropLabels
set_option linter.unusedVariables false
set_option linter.unusedSimpArgs false

theorem pure : Pure := by
  intro l ns ⟨hm, hw⟩ ⟨hm2, hw2⟩
  refine Ev.rounds (g := fun k => laws_FnExactDropLabels.f k l ns) ?_
  unfold laws_FnExactDropLabels.f
  obtain ⟨r, e, hr, hs⟩ := szLabelS l 1048576 (by omega) (by omega) hm hw
  refine ev_bind e (ev_ite (fun _ => ev_now _) (fun h0 => ?_))
  obtain ⟨r2, e2, hr2, hs2⟩ := szStringS ns r (by omega) (by omega) hm2 hw2
  refine ev_bind e2 (ev_ite (fun _ => ev_now _) (fun h1 => ?_))
  have hl := hs (by omega)
  have hn := hs2 (by omega)
  have hl2 : (l.map cv84).length ≤ 1048576 := by simpa using hl.1
  have tl := toLabelS l hl
  have ts := toStringS ns hn
  have es := drop_spec _ (fitL_cv l hl) hl2 ns hn.1
  have ei := drop_impl _ (fitL_cv l hl) hl2 ns hn.1
  have ol := someL_len (l.map cv84) ns false
  generalize someL (l.map cv84) ns false = o at es ei ol
  have ho : o.length ≤ 1048576 := by omega
  have eo := eqLabelS o ho
  obtain ⟨y1, c1, m1, _, a1, b1⟩ := markLabelS _ hl2 1 (by omega) (by omega)
  obtain ⟨y2, c2, m2, _, a2, b2⟩ := markStringS ns hn.1 c1 (by omega) (by omega)
  obtain ⟨y3, c3, m3, h3, a3, b3⟩ := markLabelS o ho 1 (by omega) (by omega)
  refine ev_bind tl (ev_bind ts (ev_bind es (ev_bind tl (ev_bind ts (ev_bind ei (ev_bind eo (ev_pos rfl (ev_bind tl (ev_bind (eqLabelS _ hl2) (ev_pos rfl (ev_bind ts (ev_bind (eqStringS ns hn.1) (ev_pos rfl (ev_bind m1 (ev_bind m2 (ev_neg (by omega) (ev_bind eo ?_)))))))))))))))))
  exact ev_step (fun _ => laws_FnExactDropLabels.j0.eq_2 ..) (ev_neg (by simp) (ev_bind m3 (ev_bind h3 (ev_neg (by omega) (ev_pos rfl (ev_bind tl (ev_bind ts (ev_bind ei (ev_bind eo (ev_pos rfl (ev_bind h3 (ev_neg (by omega) (ev_pos rfl (ev_now _))))))))))))))

end Go.Proofs.Ythgeohdpjedhnaa.PuFnExactDropLabels
