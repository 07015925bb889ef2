/- The plain statement of the law FnExactMergeSamples: for all arguments in range it answers true; no further condition. -/
import Derived.Test.YtjapdjkckhcelaaPrxg6b803n1
import Derived.Test.YtjapdjkckhcelaaPrxg6b803n2
import Derived.Test.YtjapdjkckhcelaaPrxg6b803n3
import Derived.Test.YtjapdjkckhcelaaPrxg6b803n4
import Derived.Test.YtjapdjkckhcelaaPrxg6b803n5
import Derived.Test.YtjapdjkckhcelaaUB
import Derived.Test.YtjapdjkckhcelaaUHSampleS
import Derived.Test.YtjapdjkckhcelaaUGS
import Derived.Test.YtjapdjkckhcelaaUMG
import Derived.Test.YtjapdjkckhcelaaWFFnExactMergeSamples
namespace Go.Proofs.Ytjapdjkckhcelaa.PuFnExactMergeSamples
open Go.RowKit Go.Proofs.Ytjapdjkckhcelaa.Pr Go.Proofs.YtjapdjkckhcelaaW.PrintWords Go.Proofs.YtjapdjkckhcelaaW.PrintLast Go.Proofs.YtjapdjkckhcelaaW.PrintMore Go.Proofs.Ytjapdjkckhcelaa.U Go.Proofs.Ytjapdjkckhcelaa.WFFnExactMergeSamples
set_option linter.unusedVariables false
set_option linter.unusedSimpArgs false

theorem merge_two (a b : List S37) (ha : a.length ≤ 1048576) (hb : b.length ≤ 1048576) : ∃ v : List S37, v.length ≤ 1048576 ∧ Ev (fun k => impl_MergeSamples.f k a b) v ∧ Ev (fun k => spec_MergeSamples.f k a b) v := by
  unfold impl_MergeSamples.f spec_MergeSamples.f
  cases h1 : goodS a with
  | false =>
    exact ⟨[], by simp, ev_bind (goodSamples_impl a (by omega)) (ev_neg (by simp [h1]) (ev_step (fun _ => impl_MergeSamples.j0.eq_2 ..) (ev_pos rfl (ev_now _)))), ev_bind (goodSamples_spec a (by omega)) (ev_neg (by simp [h1]) (ev_step (fun _ => spec_MergeSamples.j0.eq_2 ..) (ev_pos rfl (ev_now _))))⟩
  | true =>
    cases h2 : goodS b with
    | false =>
      exact ⟨[], by simp, ev_bind (goodSamples_impl a (by omega)) (ev_pos h1 (ev_bind (goodSamples_impl b (by omega)) (ev_step (fun _ => impl_MergeSamples.j0.eq_2 ..) (ev_pos (by simp [h2]) (ev_now _))))), ev_bind (goodSamples_spec a (by omega)) (ev_pos h1 (ev_bind (goodSamples_spec b (by omega)) (ev_step (fun _ => spec_MergeSamples.j0.eq_2 ..) (ev_pos (by simp [h2]) (ev_now _)))))⟩
    | true =>
      have e1 : Ev (fun k => impl_merge.f k a b) (mg (a.length + b.length) a b) := mg_impl _ a b [] (Nat.le_refl _) (by simp; omega)
      have e2 : Ev (fun k => spec_l6Merge.f k a b) (mg (a.length + b.length) a b) := mg_spec a b ha hb _ 0 0 [] (by omega) (by omega) (by omega) (by simp; omega)
      by_cases hn : ((mg (a.length + b.length) a b).length : Int) > 2000
      · exact ⟨[], by simp, ev_bind (goodSamples_impl a (by omega)) (ev_pos h1 (ev_bind (goodSamples_impl b (by omega)) (ev_step (fun _ => impl_MergeSamples.j0.eq_2 ..) (ev_neg (by simp [h2]) (ev_bind e1 (ev_pos hn (ev_now _))))))), ev_bind (goodSamples_spec a (by omega)) (ev_pos h1 (ev_bind (goodSamples_spec b (by omega)) (ev_step (fun _ => spec_MergeSamples.j0.eq_2 ..) (ev_neg (by simp [h2]) (ev_bind e2 (ev_pos hn (ev_now _)))))))⟩
      · exact ⟨_, by omega, ev_bind (goodSamples_impl a (by omega)) (ev_pos h1 (ev_bind (goodSamples_impl b (by omega)) (ev_step (fun _ => impl_MergeSamples.j0.eq_2 ..) (ev_neg (by simp [h2]) (ev_bind e1 (ev_neg hn (ev_now _))))))), ev_bind (goodSamples_spec a (by omega)) (ev_pos h1 (ev_bind (goodSamples_spec b (by omega)) (ev_step (fun _ => spec_MergeSamples.j0.eq_2 ..) (ev_neg (by simp [h2]) (ev_bind e2 (ev_neg hn (ev_now _)))))))⟩
theorem pure : Pure := by
  intro l m ⟨hml, hwl⟩ ⟨hmm, hwm⟩
  refine Ev.rounds (g := fun k => laws_FnExactMergeSamples.f k l m) ?_
  unfold laws_FnExactMergeSamples.f
  obtain ⟨r, e, hr, hs⟩ := szSampleS l 1048576 (by omega) (by omega) hml
  refine ev_bind e (ev_ite (fun _ => ev_now _) (fun hn => ?_))
  obtain ⟨r', e', hr', hs'⟩ := szSampleS m r (by omega) (by omega) hmm
  refine ev_bind e' (ev_ite (fun _ => ev_now _) (fun hn' => ?_))
  have hl := hs (by omega)
  have hm := hs' (by omega)
  have hl2 : (l.map cv90).length ≤ 1048576 := by simpa using hl
  have hm2 : (m.map cv90).length ≤ 1048576 := by simpa using hm
  have tl := toSampleS l hl
  have tm := toSampleS m hm
  obtain ⟨v, hv, e1, e2⟩ := merge_two _ _ hl2 hm2
  obtain ⟨y1, c1, m1, _, a1, b1⟩ := markSampleS _ hl2 1 (by omega) (by omega)
  obtain ⟨y2, c2, m2, _, a2, b2⟩ := markSampleS _ hm2 c1 (by omega) (by omega)
  obtain ⟨y3, c3, m3, h3, a3, b3⟩ := markSampleS v hv 1 (by omega) (by omega)
  have ev := eqSampleS v hv
  refine ev_bind tl (ev_bind tm (ev_bind e2 (ev_bind tl (ev_bind tm (ev_bind e1 (ev_bind ev (ev_pos rfl (ev_bind tl (ev_bind (eqSampleS _ hl2) (ev_pos rfl (ev_bind tm (ev_bind (eqSampleS _ hm2) (ev_pos rfl (ev_bind m1 (ev_bind m2 (ev_neg (by omega) (ev_bind ev ?_)))))))))))))))))
  exact ev_step (fun _ => laws_FnExactMergeSamples.j0.eq_2 ..) (ev_neg (by simp) (ev_bind m3 (ev_bind h3 (ev_neg (by omega) (ev_pos rfl (ev_bind tl (ev_bind tm (ev_bind e1 (ev_bind ev (ev_pos rfl (ev_bind h3 (ev_neg (by omega) (ev_pos rfl (ev_now _))))))))))))))

end Go.Proofs.Ytjapdjkckhcelaa.PuFnExactMergeSamples
