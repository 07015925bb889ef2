/- The plain statement of the law FnExactGoodTarget: for all arguments in range it answers true; no further condition. -/
import Derived.Test.YtnnlgbpfdnaalaaPrxg71744n1
import Derived.Test.YtnnlgbpfdnaalaaVFnExactGoodTarget
import Derived.Test.YtnnlgbpfdnaalaaWFFnExactGoodTarget
namespace Go.Proofs.Ytnnlgbpfdnaalaa.PuFnExactGoodTarget
open Go.RowKit Go.Proofs.Ytnnlgbpfdnaalaa.Pr Go.Proofs.YtnnlgbpfdnaalaaW.PrintWords Go.Proofs.YtnnlgbpfdnaalaaW.PrintLast Go.Proofs.YtnnlgbpfdnaalaaW.PrintMore Go.Proofs.Ytnnlgbpfdnaalaa.U Go.Proofs.Ytnnlgbpfdnaalaa.WFFnExactGoodTarget
set_option linter.unusedVariables false
set_option linter.unusedSimpArgs false

theorem pure : Pure := by
  intro l ev li ho rs ⟨hm, hw⟩ _ _ ⟨hm2, hw2⟩
  refine Ev.rounds (g := fun k => laws_FnExactGoodTarget.f k l ev li ho rs) ?_
  unfold laws_FnExactGoodTarget.f
  obtain ⟨r, e, hs⟩ := sz_target l ev li ho rs hm hw hm2 (fun x hx => by have h := hw2 x hx; exact ⟨h.2.1, h.2.2.1, h.2.2.2.1, h.2.2.2.2.1, h.2.2.2.2.2.1⟩)
  refine ev_bind e (ev_ite (fun _ => ev_now _) (fun hn => ?_))
  obtain ⟨hl, hr⟩ := hs (by omega)
  have t := to_target l ev li ho rs hl hr
  exact ev_bind t (ev_bind (target_spec _ _ _ _ _ (fitL_cv l hl) (fitRs_cv rs hr)) (ev_bind t (ev_bind (target_impl _ _ _ _ _ (fitL_cv l hl) (fitRs_cv rs hr)) (ev_neg (by simp) (ev_bind t (ev_bind (eq_target l ev li ho rs hl hr) (ev_pos rfl (ev_now _))))))))

end Go.Proofs.Ytnnlgbpfdnaalaa.PuFnExactGoodTarget
