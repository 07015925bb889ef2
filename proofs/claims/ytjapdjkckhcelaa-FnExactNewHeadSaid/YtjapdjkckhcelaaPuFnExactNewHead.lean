/- The plain statement of the law FnExactNewHead: for all arguments in range it answers true; no further condition. -/
import Derived.Test.YtjapdjkckhcelaaPrxg2d03dn1
import Derived.Test.YtjapdjkckhcelaaPrxg2d03dn2
import Derived.Test.YtjapdjkckhcelaaVFnExactNewHead
import Derived.Test.YtjapdjkckhcelaaWFFnExactNewHead
namespace Go.Proofs.Ytjapdjkckhcelaa.PuFnExactNewHead
open Go.RowKit Go.Proofs.Ytjapdjkckhcelaa.Pr Go.Proofs.YtjapdjkckhcelaaW.PrintWords Go.Proofs.YtjapdjkckhcelaaW.PrintLast Go.Proofs.YtjapdjkckhcelaaW.PrintMore Go.Proofs.Ytjapdjkckhcelaa.U Go.Proofs.Ytjapdjkckhcelaa.WFFnExactNewHead
set_option linter.unusedVariables false
set_option linter.unusedSimpArgs false

theorem newHead_two (a b : Int) : ∃ x y z : Int, spec_NewHead.f a b = some (x, y, z, []) ∧ impl_NewHead.f a b = some (x, y, z, []) := by
  unfold spec_NewHead.f impl_NewHead.f impl_goodWindow.f
  by_cases h : 0 ≤ a ∧ a ≤ 1000000000000
  · obtain ⟨h1, h2⟩ := isTime_yes h
    rw [h1, h2]
    simp only [Option.bind_some, if_true]
    by_cases h3 : b < 0
    · rw [if_pos h3, if_neg (show ¬ b ≥ 0 by omega)]
      exact ⟨0, 0, 0, rfl, rfl⟩
    · rw [if_neg h3, if_pos (show b ≥ 0 by omega)]
      by_cases h4 : b > 200
      · rw [if_pos h4]
        simp only [Option.bind_some]
        rw [if_neg (by simp only [decide_eq_true_eq]; omega)]
        exact ⟨0, 0, 0, rfl, rfl⟩
      · rw [if_neg h4]
        simp only [Option.bind_some]
        rw [if_pos (by simp only [decide_eq_true_eq]; omega)]
        exact ⟨a, b, -1, rfl, rfl⟩
  · obtain ⟨h1, h2⟩ := isTime_no h
    rw [h1, h2]
    exact ⟨0, 0, 0, rfl, rfl⟩
theorem eqHead_nil (x y z : Int) : Ev (fun k => laws_eqHead.f k x y z [] x y z []) true := by
  unfold laws_eqHead.f laws_eqSeriesS.f
  exact ev_pos rfl (ev_pos rfl (ev_pos rfl (ev_bind (ev_pos rfl (ev_step (fun _ => laws_eqSeriesS.l0.eq_2 ..) (ev_neg (by simp) (ev_now _)))) (ev_pos rfl (ev_now _)))))
theorem heldHead_nil (x y z : Int) : Ev (fun k => laws_heldHead.f k x y z [] 1) 1 := by
  unfold laws_heldHead.f laws_heldSeriesS.f
  exact ev_bind (ev_step (fun _ => laws_heldSeriesS.l0.eq_2 ..) (ev_neg (by simp) (ev_now _))) (ev_neg (by omega) (ev_now _))
theorem pure : Pure := by
  intro a b _ _
  refine Ev.rounds (g := fun k => laws_FnExactNewHead.f k a b) ?_
  unfold laws_FnExactNewHead.f
  obtain ⟨x, y, z, e1, e2⟩ := newHead_two a b
  have eq := eqHead_nil x y z
  have he := heldHead_nil x y z
  have mk : laws_markHead.f x y z [] 1 = some 1 := rfl
  exact ev_bind (ev_eq e1) (ev_bind (ev_eq e2) (ev_bind eq (ev_pos rfl (ev_bind (ev_eq mk) (ev_bind he (ev_neg (by omega) (ev_pos rfl (ev_bind (ev_eq e2) (ev_bind eq (ev_pos rfl (ev_bind he (ev_neg (by omega) (ev_pos rfl (ev_now _))))))))))))))

end Go.Proofs.Ytjapdjkckhcelaa.PuFnExactNewHead
