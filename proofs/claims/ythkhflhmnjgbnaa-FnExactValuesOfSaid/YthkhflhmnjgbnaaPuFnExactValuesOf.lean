/- The plain statement of the law FnExactValuesOf: for all arguments in range it answers true; no further condition. -/
import Derived.Test.YthkhflhmnjgbnaaPrxg18cf1n1
import Derived.Test.YthkhflhmnjgbnaaVFnExactValuesOf
import Derived.Test.YthkhflhmnjgbnaaWFFnExactValuesOf
namespace Go.Proofs.Ythkhflhmnjgbnaa.PuFnExactValuesOf
open Go.RowKit Go.Proofs.Ythkhflhmnjgbnaa.Pr Go.Proofs.YthkhflhmnjgbnaaW.PrintWords Go.Proofs.YthkhflhmnjgbnaaW.PrintLast Go.Proofs.YthkhflhmnjgbnaaW.PrintMore Go.Proofs.Ythkhflhmnjgbnaa.U Go.Proofs.Ythkhflhmnjgbnaa.WFFnExactValuesOf
set_option linter.unusedVariables false
set_option linter.unusedSimpArgs false

theorem pure : Pure := by
  intro l n hm hn
  refine Ev.rounds (g := fun k => laws_FnExactValuesOf.f k l n) ?_
  obtain ⟨r, e, hr, hs⟩ := szSeriesS l 1048576 (by omega) (by omega) hm.1 hm.2
  unfold laws_FnExactValuesOf.f
  refine ev_ite (fun _ => ev_now _) (fun _ => ev_bind e (ev_ite (fun _ => ev_now _) (fun hn => ?_)))
  have hl := hs (by omega)
  have hl2 : (l.map cv39).length ≤ 1048576 := by simpa using hl.1
  have hf := fitS_cv l hl
  have hse := seS_cv l hl
  obtain ⟨v, hv, i1, s1⟩ := values_two n (l.map cv39) hf
  have th := toSeriesS l hl
  have eh := eqSeriesS _ hl2 hse
  have ev := eqStringS v hv
  obtain ⟨y1, c1, m1, q1, p1⟩ := mark_series1 (l.map cv39) hl2 hse 1 (by omega) (by omega)
  obtain ⟨y3, c3, m3, h3, q3, p3⟩ := markStringS v hv 1 (by omega) (by omega)
  exact ev_bind th (ev_bind s1 (ev_bind th (ev_bind i1 (ev_bind ev (ev_pos rfl (ev_bind th (ev_bind eh (ev_pos rfl (ev_bind m1 (ev_neg (by simp; omega) (ev_bind ev (ev_pos rfl (ev_bind m3 (ev_bind h3 (ev_neg (by omega) (ev_pos rfl (ev_bind th (ev_bind i1 (ev_bind ev (ev_pos rfl (ev_bind h3 (ev_neg (by omega) (ev_pos rfl (ev_now _))))))))))))))))))))))))
end Go.Proofs.Ythkhflhmnjgbnaa.PuFnExactValuesOf
