/- The plain statement of the law FnExactAddBits: for all arguments in range it answers true; no further condition. -/
import Derived.Test.YtjapdjkckhcelaaPrxge3834n3
import Derived.Test.YtjapdjkckhcelaaVFnExactAddBits
import Derived.Test.YtjapdjkckhcelaaWFFnExactAddBits
namespace Go.Proofs.Ytjapdjkckhcelaa.PuFnExactAddBits
open Go.RowKit Go.Proofs.Ytjapdjkckhcelaa.Pr Go.Proofs.YtjapdjkckhcelaaW.PrintWords Go.Proofs.YtjapdjkckhcelaaW.PrintLast Go.Proofs.YtjapdjkckhcelaaW.PrintMore Go.Proofs.Ytjapdjkckhcelaa.U Go.Proofs.Ytjapdjkckhcelaa.WFFnExactAddBits
set_option linter.unusedVariables false
set_option linter.unusedSimpArgs false

theorem pure : Pure := by
  intro l z v n ⟨hm, hb⟩ hz hv hn
  refine Ev.rounds (g := fun k => laws_FnExactAddBits.f k l z v n) ?_
  obtain ⟨r, e, hs⟩ := szBits l hm z
  unfold laws_FnExactAddBits.f
  refine ev_bind (ev_eq e) (ev_ite (fun _ => ev_now _) (fun h0 => ?_))
  have hl := hs (by omega)
  have tl := toBits l hl z
  have e1 := addBits_impl l hl z v n hz hn
  have e2 := addBits_spec l hb hl z v n hz hn
  have ol := addV_len l z v n
  generalize addV l z v n = o at e1 e2 ol
  obtain ⟨o1, o2⟩ := o
  have eo := eqBits o1 ol o2
  obtain ⟨y1, c1, m1, _, a1⟩ := markBits l hl z
  obtain ⟨y3, c3, m3, h3, a3⟩ := markBits o1 ol o2
  refine ev_bind tl (ev_bind e2 (ev_bind tl (ev_bind e1 (ev_bind eo (ev_pos rfl (ev_bind tl (ev_bind (eqBits l hl z) (ev_pos rfl (ev_bind m1 (ev_neg (by show ¬ c1 < 0; omega) (ev_bind eo ?_)))))))))))
  exact ev_step (fun _ => laws_FnExactAddBits.j0.eq_2 ..) (ev_neg (by simp) (ev_bind m3 (ev_bind h3 (ev_neg (by omega) (ev_pos rfl (ev_bind tl (ev_bind e1 (ev_bind eo (ev_pos rfl (ev_bind h3 (ev_neg (by omega) (ev_pos rfl (ev_now _)))))))))))))

end Go.Proofs.Ytjapdjkckhcelaa.PuFnExactAddBits
