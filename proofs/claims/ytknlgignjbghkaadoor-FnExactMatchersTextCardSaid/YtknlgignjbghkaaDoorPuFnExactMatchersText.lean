/- The plain statement of the law FnExactMatchersText: for all arguments in range it answers true; no further condition. -/
import Derived.Test.YtknlgignjbghkaaDoorPrxg6f417n1
import Derived.Test.YtknlgignjbghkaaDoorVFnExactMatchersText
import Derived.Test.YtknlgignjbghkaaDoorWFFnExactMatchersText
namespace Go.Proofs.YtknlgignjbghkaaDoor.PuFnExactMatchersText
open Go.RowKit Go.Proofs.YtknlgignjbghkaaDoor.Pr Go.Proofs.YtknlgignjbghkaaDoorW.PrintWords Go.Proofs.YtknlgignjbghkaaDoorW.PrintLast Go.Proofs.YtknlgignjbghkaaDoorW.PrintMore Go.Proofs.YtknlgignjbghkaaDoor.U Go.Proofs.YtknlgignjbghkaaDoor.WFFnExactMatchersText
set_option linter.unusedVariables false
set_option linter.unusedSimpArgs false

theorem pure : Pure := by
  intro l ⟨hm, hw⟩
  refine Ev.rounds (g := fun k => laws_FnExactMatchersText.f k l) ?_
  unfold laws_FnExactMatchersText.f
  obtain ⟨r, e, hr, hs⟩ := szMatcherS l 1048576 (by omega) (by omega) hm (fun x hx => ⟨(hw x hx).1, (hw x hx).2.2⟩)
  refine ev_bind e (ev_ite (fun _ => ev_now _) (fun hn => ?_))
  have hl := hs (by omega)
  have hl2 : (l.map cv44).length ≤ 1048576 := by simpa using hl.1
  have hf := fitM_cv l hl
  exact ev_bind (toMatcherS l hl) (ev_bind (textM_spec _ (by omega) hf) (ev_bind (toMatcherS l hl) (ev_bind (textM_impl _ (by omega) hf) (ev_pos rfl (ev_bind (toMatcherS l hl) (ev_bind (eqMatcherS _ hl2) (ev_pos rfl (ev_now _))))))))

end Go.Proofs.YtknlgignjbghkaaDoor.PuFnExactMatchersText
