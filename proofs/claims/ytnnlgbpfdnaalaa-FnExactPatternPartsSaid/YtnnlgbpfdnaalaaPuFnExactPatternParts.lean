/- The plain statement of the law FnExactPatternParts: for all arguments in range it answers true; no further condition. -/
import Derived.Test.YtnnlgbpfdnaalaaPrxg95654n1
import Derived.Test.YtnnlgbpfdnaalaaVFnExactPatternParts
import Derived.Test.YtnnlgbpfdnaalaaWFFnExactPatternParts
namespace Go.Proofs.Ytnnlgbpfdnaalaa.PuFnExactPatternParts
open Go.RowKit Go.Proofs.Ytnnlgbpfdnaalaa.Pr Go.Proofs.YtnnlgbpfdnaalaaW.PrintWords Go.Proofs.YtnnlgbpfdnaalaaW.PrintLast Go.Proofs.YtnnlgbpfdnaalaaW.PrintMore Go.Proofs.Ytnnlgbpfdnaalaa.U Go.Proofs.Ytnnlgbpfdnaalaa.WFFnExactPatternParts
set_option linter.unusedVariables false
set_option linter.unusedSimpArgs false

theorem pure : Pure := by
  intro p s _ _
  refine Ev.rounds (g := fun k => laws_FnExactPatternParts.f k p s) ?_
  unfold laws_FnExactPatternParts.f
  refine ev_ite (fun _ => ev_now _) (fun h1 => ev_ite (fun _ => ev_now _) (fun h2 => ?_))
  have e1 := pp_spec p s (by omega) (by omega)
  have e2 := pp_impl p s (by omega) (by omega)
  have hr := ppL_len p s
  generalize ppL p s = r at e1 e2 hr
  obtain ⟨l, b⟩ := r
  have hl : l.length ≤ 1048576 := Nat.le_trans hr (by omega)
  obtain ⟨y1, c1, m1, hh1, a1, b1⟩ := markStringS l hl 1 (by omega) (by omega)
  have ev := eqStringS l hl
  refine ev_bind e1 (ev_bind e2 (ev_bind ev (ev_pos rfl ?_)))
  refine ev_step (fun _ => laws_FnExactPatternParts.j0.eq_2 ..) (ev_neg (by simp) (ev_bind m1 (ev_bind hh1 (ev_neg (by omega) (ev_pos rfl (ev_bind e2 (ev_bind ev (ev_pos rfl ?_))))))))
  exact ev_step (fun _ => laws_FnExactPatternParts.j1.eq_2 ..) (ev_neg (by simp) (ev_bind hh1 (ev_neg (by omega) (ev_pos rfl (ev_now _)))))

end Go.Proofs.Ytnnlgbpfdnaalaa.PuFnExactPatternParts
