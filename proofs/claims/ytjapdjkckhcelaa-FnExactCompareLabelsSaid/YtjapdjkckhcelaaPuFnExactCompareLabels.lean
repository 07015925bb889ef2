/- The plain statement of the law FnExactCompareLabels: for all arguments in range it answers true; no further condition. -/
import Derived.Test.YtjapdjkckhcelaaPrxg9f381n1
import Derived.Test.YtjapdjkckhcelaaPrxg9f381n4
import Derived.Test.YtjapdjkckhcelaaUB
import Derived.Test.YtjapdjkckhcelaaUHLabelS
import Derived.Test.YtjapdjkckhcelaaULABELS
import Derived.Test.YtjapdjkckhcelaaULFIT
import Derived.Test.YtjapdjkckhcelaaUCMPL
import Derived.Test.YtjapdjkckhcelaaWFFnExactCompareLabels
namespace Go.Proofs.Ytjapdjkckhcelaa.PuFnExactCompareLabels
open Go.RowKit Go.Proofs.Ytjapdjkckhcelaa.Pr Go.Proofs.YtjapdjkckhcelaaW.PrintWords Go.Proofs.YtjapdjkckhcelaaW.PrintLast Go.Proofs.YtjapdjkckhcelaaW.PrintMore Go.Proofs.Ytjapdjkckhcelaa.U Go.Proofs.Ytjapdjkckhcelaa.WFFnExactCompareLabels
set_option linter.unusedVariables false
set_option linter.unusedSimpArgs false

theorem pure : Pure := by
  intro l m ⟨hml, hwl⟩ ⟨hmm, hwm⟩
  refine Ev.rounds (g := fun k => laws_FnExactCompareLabels.f k l m) ?_
  unfold laws_FnExactCompareLabels.f
  obtain ⟨r, e, hr, hs⟩ := szLabelS l 1048576 (by omega) (by omega) hml hwl
  refine ev_bind e (ev_ite (fun _ => ev_now _) (fun hn => ?_))
  obtain ⟨r', e', hr', hs'⟩ := szLabelS m r (by omega) (by omega) hmm hwm
  refine ev_bind e' (ev_ite (fun _ => ev_now _) (fun hn' => ?_))
  have hl := hs (by omega)
  have hm := hs' (by omega)
  have hl2 : (l.map cv103).length ≤ 1048576 := by simpa using hl.1
  have hm2 : (m.map cv103).length ≤ 1048576 := by simpa using hm.1
  have hf := fitL_cv l hl
  have hg := fitL_cv m hm
  have key : ∃ v, Ev (fun k => impl_CompareLabels.f k (l.map cv103) (m.map cv103)) v ∧ Ev (fun k => spec_CompareLabels.f k (l.map cv103) (m.map cv103)) v := by
    unfold impl_CompareLabels.f spec_CompareLabels.f
    cases hga : goodL (l.map cv103) with
    | true =>
      cases hgb : goodL (m.map cv103) with
      | true => exact ⟨_, ev_bind (goodLabels_impl _ hf) (ev_pos hga (ev_bind (goodLabels_impl _ hg) (ev_pos hgb (ev_bind (cmpLL_impl _ _ hf hg) (ev_now _))))), ev_bind (goodLabels_spec _ hf) (ev_pos hga (ev_bind (goodLabels_spec _ hg) (ev_pos hgb (ev_bind (cmpLL_spec _ _ hf hg) (ev_now _)))))⟩
      | false => exact ⟨_, ev_bind (goodLabels_impl _ hf) (ev_pos hga (ev_bind (goodLabels_impl _ hg) (ev_neg (by simp [hgb]) (ev_now _)))), ev_bind (goodLabels_spec _ hf) (ev_pos hga (ev_bind (goodLabels_spec _ hg) (ev_neg (by simp [hgb]) (ev_now _))))⟩
    | false => exact ⟨_, ev_bind (goodLabels_impl _ hf) (ev_neg (by simp [hga]) (ev_now _)), ev_bind (goodLabels_spec _ hf) (ev_neg (by simp [hga]) (ev_now _))⟩
  obtain ⟨v, e1, e2⟩ := key
  have tl := toLabelS l hl
  have tm := toLabelS m hm
  exact ev_bind tl (ev_bind tm (ev_bind e2 (ev_bind tl (ev_bind tm (ev_bind e1 (ev_pos rfl (ev_bind tl (ev_bind (eqLabelS _ hl2) (ev_pos rfl (ev_bind tm (ev_bind (eqLabelS _ hm2) (ev_pos rfl (ev_now _)))))))))))))

end Go.Proofs.Ytjapdjkckhcelaa.PuFnExactCompareLabels
