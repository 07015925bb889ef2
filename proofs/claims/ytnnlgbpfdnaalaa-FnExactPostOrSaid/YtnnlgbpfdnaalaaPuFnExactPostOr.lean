/- The plain statement of the law FnExactPostOr: for all arguments in range it answers true; no further condition. -/
import Derived.Test.YtnnlgbpfdnaalaaPrxg7a97fn1
import Derived.Test.YtnnlgbpfdnaalaaVFnExactPostOr
import Derived.Test.YtnnlgbpfdnaalaaWFFnExactPostOr
namespace Go.Proofs.Ytnnlgbpfdnaalaa.PuFnExactPostOr
open Go.RowKit Go.Proofs.Ytnnlgbpfdnaalaa.Pr Go.Proofs.YtnnlgbpfdnaalaaW.PrintWords Go.Proofs.YtnnlgbpfdnaalaaW.PrintLast Go.Proofs.YtnnlgbpfdnaalaaW.PrintMore Go.Proofs.Ytnnlgbpfdnaalaa.U Go.Proofs.Ytnnlgbpfdnaalaa.WFFnExactPostOr
set_option linter.unusedVariables false
set_option linter.unusedSimpArgs false

theorem pure : Pure := by
  intro l0 l1 _ _
  refine Ev.rounds (g := fun k => laws_FnExactPostOr.f k l0 l1) ?_
  unfold laws_FnExactPostOr.f
  refine ev_ite (fun _ => ev_now _) (fun h0 => ev_ite (fun _ => ev_now _) (fun h1 => ?_))
  have hl : l0.length ≤ 1048576 := by omega
  have hn : l1.length ≤ 1048576 := by omega
  have tl := toIntS l0 hl
  have ts := toIntS l1 hn
  have es := or_spec l0 l1 hl hn
  have ei : Ev (fun k => impl_PostOr.f k l0 l1) _ := posts_impl (fun _ _ => true) l0 l1 hl hn
  have ol := post_len (fun _ _ => true) l0 l1
  generalize post (fun _ _ => true) l0 l1 = o at es ei ol
  have ho : o.length ≤ 1048576 := by omega
  have eo := eqIntS o ho
  obtain ⟨y1, c1, m1, _, a1, b1⟩ := markIntS l0 hl 1 (by omega) (by omega)
  obtain ⟨y2, c2, m2, _, a2, b2⟩ := markIntS l1 hn c1 (by omega) (by omega)
  obtain ⟨y3, c3, m3, h3, a3, b3⟩ := markIntS o ho 1 (by omega) (by omega)
  refine ev_bind tl (ev_bind ts (ev_bind es (ev_bind tl (ev_bind ts (ev_bind ei (ev_bind eo (ev_pos rfl (ev_bind tl (ev_bind (eqIntS _ hl) (ev_pos rfl (ev_bind ts (ev_bind (eqIntS l1 hn) (ev_pos rfl (ev_bind m1 (ev_bind m2 (ev_neg (by omega) (ev_bind eo ?_)))))))))))))))))
  exact ev_step (fun _ => laws_FnExactPostOr.j0.eq_2 ..) (ev_neg (by simp) (ev_bind m3 (ev_bind h3 (ev_neg (by omega) (ev_pos rfl (ev_bind tl (ev_bind ts (ev_bind ei (ev_bind eo (ev_pos rfl (ev_bind h3 (ev_neg (by omega) (ev_pos rfl (ev_now _))))))))))))))

end Go.Proofs.Ytnnlgbpfdnaalaa.PuFnExactPostOr
