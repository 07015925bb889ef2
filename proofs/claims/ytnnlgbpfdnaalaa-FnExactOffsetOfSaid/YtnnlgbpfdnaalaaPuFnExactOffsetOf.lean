/- The plain statement of the law FnExactOffsetOf: for all arguments in range it answers true; no further condition. -/
import Derived.Test.YtnnlgbpfdnaalaaPrxgc5f60n1
import Derived.Test.YtnnlgbpfdnaalaaPrxgdbe75n1
import Derived.Test.YtnnlgbpfdnaalaaVFnExactOffsetOf
import Derived.Test.YtnnlgbpfdnaalaaWFFnExactOffsetOf
namespace Go.Proofs.Ytnnlgbpfdnaalaa.PuFnExactOffsetOf
open Go.RowKit Go.Proofs.Ytnnlgbpfdnaalaa.Pr Go.Proofs.YtnnlgbpfdnaalaaW.PrintWords Go.Proofs.YtnnlgbpfdnaalaaW.PrintLast Go.Proofs.YtnnlgbpfdnaalaaW.PrintMore Go.Proofs.Ytnnlgbpfdnaalaa.U Go.Proofs.Ytnnlgbpfdnaalaa.WFFnExactOffsetOf
set_option linter.unusedVariables false
set_option linter.unusedSimpArgs false

theorem pure : Pure := by
  intro l ev li ho rs ⟨hm, hw⟩ _ _ ⟨hm2, hw2⟩
  refine Ev.rounds (g := fun k => laws_FnExactOffsetOf.f k l ev li ho rs) ?_
  unfold laws_FnExactOffsetOf.f
  obtain ⟨r, e, hs⟩ := sz_target l ev li ho rs hm hw hm2 (fun x hx => by have h := hw2 x hx; exact ⟨h.2.1, h.2.2.1, h.2.2.2.1, h.2.2.2.2.1, h.2.2.2.2.2.1⟩)
  refine ev_bind e (ev_ite (fun _ => ev_now _) (fun hn => ?_))
  obtain ⟨hl, hr⟩ := hs (by omega)
  have t := to_target l ev li ho rs hl hr
  have fl := fitL_cv l hl
  have fr := fitRs_cv rs hr
  have key : ∃ v, Ev (fun k => impl_OffsetOf.f k (l.map cv103) ev li ho (rs.map cv39)) v ∧ Ev (fun k => spec_OffsetOf.f k (l.map cv103) ev li ho (rs.map cv39)) v := by
    unfold impl_OffsetOf.f spec_OffsetOf.f
    cases hb : tgtB (l.map cv103) ev li (rs.map cv39) with
    | false =>
      have e1 := target_impl _ ev li ho _ fl fr
      have e2 := target_spec _ ev li ho _ fl fr
      rw [hb] at e1 e2
      exact ⟨0, ev_bind e1 (ev_neg (by decide) (ev_now _)), ev_bind e2 (ev_neg (by decide) (ev_now _))⟩
    | true =>
      have e1 := target_impl _ ev li ho _ fl fr
      have e2 := target_spec _ ev li ho _ fl fr
      rw [hb] at e1 e2
      have hev : ev ≥ 1 := by
        unfold tgtB at hb
        simp only [Bool.and_eq_true, decide_eq_true_eq] at hb
        exact hb.2.2.2.1
      obtain ⟨h, e3, e4⟩ := hash_two _ fl
      exact ⟨_, ev_bind e1 (ev_pos rfl (ev_bind e3 (ev_neg (by omega) (ev_now _)))), ev_bind e2 (ev_pos rfl (ev_bind e4 (ev_neg (by omega) (ev_now _))))⟩
  obtain ⟨v, e1, e2⟩ := key
  exact ev_bind t (ev_bind e2 (ev_bind t (ev_bind e1 (ev_pos rfl (ev_bind t (ev_bind (eq_target l ev li ho rs hl hr) (ev_pos rfl (ev_now _))))))))

end Go.Proofs.Ytnnlgbpfdnaalaa.PuFnExactOffsetOf
