/- The plain statement of the law FnExactSampleAt: for all arguments in range it answers true; no further condition. -/
import Derived.Test.YtjapdjkckhcelaaPrxg1cf53n1
import Derived.Test.YtjapdjkckhcelaaPrxg1d1fdn1
import Derived.Test.YtjapdjkckhcelaaVFnExactSampleAt
import Derived.Test.YtjapdjkckhcelaaWFFnExactSampleAt
namespace Go.Proofs.Ytjapdjkckhcelaa.PuFnExactSampleAt
open Go.RowKit Go.Proofs.Ytjapdjkckhcelaa.Pr Go.Proofs.YtjapdjkckhcelaaW.PrintWords Go.Proofs.YtjapdjkckhcelaaW.PrintLast Go.Proofs.YtjapdjkckhcelaaW.PrintMore Go.Proofs.Ytjapdjkckhcelaa.U Go.Proofs.Ytjapdjkckhcelaa.WFFnExactSampleAt
set_option linter.unusedVariables false
set_option linter.unusedSimpArgs false

theorem sampleAt_two (l : List S37) (hl : l.length ≤ 1048576) (t look : Int) : ∃ v, Ev (fun k => spec_SampleAt.f k l t look) v ∧ Ev (fun k => impl_SampleAt.f k l t look) v := by
  have g1 := goodSamples_impl l (by omega)
  have g2 := goodSamples_spec l (by omega)
  unfold spec_SampleAt.f impl_SampleAt.f
  cases hg : goodS l with
  | false =>
    rw [hg] at g1 g2
    exact ⟨(0, 0, false), ev_bind g2 (ev_neg (by simp) (ev_now _)), ev_bind g1 (ev_neg (by simp) (ev_now _))⟩
  | true =>
    rw [hg] at g1 g2
    by_cases ht : 0 ≤ t ∧ t ≤ 1000000000000
    · obtain ⟨t1, t2⟩ := isTime_yes ht
      by_cases hk : 0 ≤ look ∧ look ≤ 1000000000000
      · obtain ⟨k1, k2⟩ := isTime_yes hk
        obtain ⟨v, e1, e2⟩ := at_two l hl hg t look
        exact ⟨(v.1, v.2.1, v.2.2), ev_bind g2 (ev_pos rfl (ev_bind (ev_eq t2) (ev_pos rfl (ev_bind (ev_eq k2) (ev_pos rfl (ev_bind e1 (ev_now _))))))), ev_bind g1 (ev_pos rfl (ev_bind (ev_eq t1) (ev_pos rfl (ev_bind (ev_eq k1) (ev_pos rfl (ev_bind e2 (ev_now _)))))))⟩
      · obtain ⟨k1, k2⟩ := isTime_no hk
        exact ⟨(0, 0, false), ev_bind g2 (ev_pos rfl (ev_bind (ev_eq t2) (ev_pos rfl (ev_bind (ev_eq k2) (ev_neg (by simp) (ev_now _)))))), ev_bind g1 (ev_pos rfl (ev_bind (ev_eq t1) (ev_pos rfl (ev_bind (ev_eq k1) (ev_neg (by simp) (ev_now _))))))⟩
    · obtain ⟨t1, t2⟩ := isTime_no ht
      exact ⟨(0, 0, false), ev_bind g2 (ev_pos rfl (ev_bind (ev_eq t2) (ev_neg (by simp) (ev_now _)))), ev_bind g1 (ev_pos rfl (ev_bind (ev_eq t1) (ev_neg (by simp) (ev_now _))))⟩
theorem pure : Pure := by
  intro l t look ⟨hm, hw⟩ _ _
  refine Ev.rounds (g := fun k => laws_FnExactSampleAt.f k l t look) ?_
  unfold laws_FnExactSampleAt.f
  obtain ⟨r, e, hr, hs⟩ := szSampleS l 1048576 (by omega) (by omega) hm
  refine ev_bind e (ev_ite (fun _ => ev_now _) (fun hn => ?_))
  have hl := hs (by omega)
  have hl2 : (l.map cv90).length ≤ 1048576 := by simpa using hl
  have tl := toSampleS l hl
  obtain ⟨v, e2, e1⟩ := sampleAt_two _ hl2 t look
  have eq : laws_eqSample.f v.1 v.2.1 v.1 v.2.1 = some true := by unfold laws_eqSample.f; rw [if_pos rfl, if_pos rfl]
  refine ev_bind tl (ev_bind e2 (ev_bind tl (ev_bind e1 (ev_bind (ev_eq eq) (ev_pos rfl ?_)))))
  exact ev_step (fun _ => laws_FnExactSampleAt.j0.eq_2 ..) (ev_neg (by simp) (ev_bind tl (ev_bind (eqSampleS _ hl2) (ev_pos rfl (ev_now _)))))

end Go.Proofs.Ytjapdjkckhcelaa.PuFnExactSampleAt
