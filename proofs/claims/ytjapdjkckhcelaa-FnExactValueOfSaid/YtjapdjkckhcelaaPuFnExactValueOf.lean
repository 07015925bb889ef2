/- The plain statement of the law FnExactValueOf: for all arguments in range it answers true; no further condition. -/
import Derived.Test.YtjapdjkckhcelaaPrxg07201n1
import Derived.Test.YtjapdjkckhcelaaUB
import Derived.Test.YtjapdjkckhcelaaUHLabelS
import Derived.Test.YtjapdjkckhcelaaULABELS
import Derived.Test.YtjapdjkckhcelaaULFIT
import Derived.Test.YtjapdjkckhcelaaUOF
import Derived.Test.YtjapdjkckhcelaaUOFI
import Derived.Test.YtjapdjkckhcelaaUOFS
import Derived.Test.YtjapdjkckhcelaaWFFnExactValueOf
namespace Go.Proofs.Ytjapdjkckhcelaa.PuFnExactValueOf
open Go.RowKit Go.Proofs.Ytjapdjkckhcelaa.Pr Go.Proofs.YtjapdjkckhcelaaW.PrintWords Go.Proofs.YtjapdjkckhcelaaW.PrintLast Go.Proofs.YtjapdjkckhcelaaW.PrintMore Go.Proofs.Ytjapdjkckhcelaa.U Go.Proofs.Ytjapdjkckhcelaa.WFFnExactValueOf
set_option linter.unusedVariables false
set_option linter.unusedSimpArgs false

theorem pure : Pure := by
  intro l n ⟨hm, hw⟩ hn0
  refine Ev.rounds (g := fun k => laws_FnExactValueOf.f k l n) ?_
  unfold laws_FnExactValueOf.f
  refine ev_ite (fun _ => ev_now _) (fun hn1 => ?_)
  obtain ⟨r, e, hr, hs⟩ := szLabelS l 1048576 (by omega) (by omega) hm hw
  refine ev_bind e (ev_ite (fun _ => ev_now _) (fun hn => ?_))
  have hl := hs (by omega)
  have hl2 : (l.map cv103).length ≤ 1048576 := by simpa using hl.1
  have hf := fitL_cv l hl
  have key : ∃ v, Ev (fun k => impl_ValueOf.f k (l.map cv103) n) v ∧ Ev (fun k => spec_ValueOf.f k (l.map cv103) n) v := by
    unfold impl_ValueOf.f spec_ValueOf.f
    cases hg : goodL (l.map cv103) with
    | true => exact ⟨_, ev_bind (goodLabels_impl _ hf) (ev_pos hg (ev_bind (of_impl _ hf.1 n) (ev_now _))), ev_bind (goodLabels_spec _ hf) (ev_pos hg (ev_bind (of_spec _ hf.1 n) (ev_now _)))⟩
    | false => exact ⟨_, ev_bind (goodLabels_impl _ hf) (ev_neg (by simp [hg]) (ev_now _)), ev_bind (goodLabels_spec _ hf) (ev_neg (by simp [hg]) (ev_now _))⟩
  obtain ⟨v, e1, e2⟩ := key
  exact ev_bind (toLabelS l hl) (ev_bind e2 (ev_bind (toLabelS l hl) (ev_bind e1 (ev_pos rfl (ev_bind (toLabelS l hl) (ev_bind (eqLabelS _ hl2) (ev_pos rfl (ev_now _))))))))

end Go.Proofs.Ytjapdjkckhcelaa.PuFnExactValueOf
