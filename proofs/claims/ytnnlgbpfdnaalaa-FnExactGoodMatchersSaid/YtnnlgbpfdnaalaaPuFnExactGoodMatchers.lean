/- The plain statement of the law FnExactGoodMatchers: for all arguments in range it answers true; no further condition. -/
import Derived.Test.YtnnlgbpfdnaalaaPrxgef801n1
import Derived.Test.YtnnlgbpfdnaalaaVFnExactGoodMatchers
import Derived.Test.YtnnlgbpfdnaalaaWFFnExactGoodMatchers
namespace Go.Proofs.Ytnnlgbpfdnaalaa.PuFnExactGoodMatchers
open Go.RowKit Go.Proofs.Ytnnlgbpfdnaalaa.Pr Go.Proofs.YtnnlgbpfdnaalaaW.PrintWords Go.Proofs.YtnnlgbpfdnaalaaW.PrintLast Go.Proofs.YtnnlgbpfdnaalaaW.PrintMore Go.Proofs.Ytnnlgbpfdnaalaa.U Go.Proofs.Ytnnlgbpfdnaalaa.WFFnExactGoodMatchers
set_option linter.unusedVariables false
set_option linter.unusedSimpArgs false

theorem pure : Pure := by
  intro l ⟨hm, hw⟩
  refine Ev.rounds (g := fun k => laws_FnExactGoodMatchers.f k l) ?_
  unfold laws_FnExactGoodMatchers.f
  obtain ⟨r, e, hr, hs⟩ := szMatcherS l 1048576 (by omega) (by omega) hm (fun x hx => ⟨(hw x hx).1, (hw x hx).2.2⟩)
  refine ev_bind e (ev_ite (fun _ => ev_now _) (fun hn => ?_))
  have hl := hs (by omega)
  have hl2 : (l.map cv86).length ≤ 1048576 := by simpa using hl.1
  have hf := fitM_cv l hl
  exact ev_bind (toMatcherS l hl) (ev_bind (goodMatchers_spec _ (by omega) hf) (ev_bind (toMatcherS l hl) (ev_bind (goodMatchers_impl _ (by omega) hf) (ev_neg (by simp) (ev_bind (toMatcherS l hl) (ev_bind (eqMatcherS _ hl2) (ev_pos rfl (ev_now _))))))))

end Go.Proofs.Ytnnlgbpfdnaalaa.PuFnExactGoodMatchers
