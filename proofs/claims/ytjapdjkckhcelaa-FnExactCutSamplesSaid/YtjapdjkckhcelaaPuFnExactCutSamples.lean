/- The plain statement of the law FnExactCutSamples: for all arguments in range it answers true; no further condition. -/
import Derived.Test.YtjapdjkckhcelaaPrxg47c89n1
import Derived.Test.YtjapdjkckhcelaaVFnExactCutSamples
import Derived.Test.YtjapdjkckhcelaaWFFnExactCutSamples
namespace Go.Proofs.Ytjapdjkckhcelaa.PuFnExactCutSamples
open Go.RowKit Go.Proofs.Ytjapdjkckhcelaa.Pr Go.Proofs.YtjapdjkckhcelaaW.PrintWords Go.Proofs.YtjapdjkckhcelaaW.PrintLast Go.Proofs.YtjapdjkckhcelaaW.PrintMore Go.Proofs.Ytjapdjkckhcelaa.U Go.Proofs.Ytjapdjkckhcelaa.WFFnExactCutSamples
set_option linter.unusedVariables false
set_option linter.unusedSimpArgs false

theorem cutSamples_spec (l : List S37) (hl : l.length ≤ 1048576) (a b : Int) : Ev (fun k => spec_CutSamples.f k l a b) (cutL l a b) := by
  unfold spec_CutSamples.f cutL
  refine ev_bind (goodSamples_spec l (by omega)) (ev_ite (fun h => ?_) (fun h => ?_))
  · rw [if_pos h]; exact ev_bind (cut_spec l hl a b) (ev_now _)
  · rw [if_neg h]; exact ev_now _
theorem cutSamples_impl (l : List S37) (hl : l.length ≤ 1048576) (a b : Int) : Ev (fun k => impl_CutSamples.f k l a b) (cutL l a b) := by
  unfold impl_CutSamples.f cutL
  refine ev_bind (goodSamples_impl l (by omega)) (ev_ite (fun h => ?_) (fun h => ?_))
  · rw [if_pos h]; exact ev_bind (cut_impl l hl a b) (ev_now _)
  · rw [if_neg h]; exact ev_now _
theorem pure : Pure := by
  intro l a b ⟨hm, hw⟩ _ _
  refine Ev.rounds (g := fun k => laws_FnExactCutSamples.f k l a b) ?_
  unfold laws_FnExactCutSamples.f
  obtain ⟨r, e, hr, hs⟩ := szSampleS l 1048576 (by omega) (by omega) hm
  refine ev_bind e (ev_ite (fun _ => ev_now _) (fun hn => ?_))
  have hl := hs (by omega)
  have hl2 : (l.map cv90).length ≤ 1048576 := by simpa using hl
  have tl := toSampleS l hl
  have e1 := cutSamples_impl _ hl2 a b
  have e2 := cutSamples_spec _ hl2 a b
  have ho := cutL_len (l.map cv90) a b
  generalize cutL (l.map cv90) a b = v at e1 e2 ho
  have hv : v.length ≤ 1048576 := by omega
  obtain ⟨y1, c1, m1, _, a1, b1⟩ := markSampleS _ hl2 1 (by omega) (by omega)
  obtain ⟨y3, c3, m3, h3, a3, b3⟩ := markSampleS v hv 1 (by omega) (by omega)
  have ev := eqSampleS v hv
  refine ev_bind tl (ev_bind e2 (ev_bind tl (ev_bind e1 (ev_bind ev (ev_pos rfl (ev_bind tl (ev_bind (eqSampleS _ hl2) (ev_pos rfl (ev_bind m1 (ev_neg (by omega) (ev_bind ev ?_)))))))))))
  exact ev_step (fun _ => laws_FnExactCutSamples.j0.eq_2 ..) (ev_neg (by simp) (ev_bind m3 (ev_bind h3 (ev_neg (by omega) (ev_pos rfl (ev_bind tl (ev_bind e1 (ev_bind ev (ev_pos rfl (ev_bind h3 (ev_neg (by omega) (ev_pos rfl (ev_now _)))))))))))))

end Go.Proofs.Ytjapdjkckhcelaa.PuFnExactCutSamples
