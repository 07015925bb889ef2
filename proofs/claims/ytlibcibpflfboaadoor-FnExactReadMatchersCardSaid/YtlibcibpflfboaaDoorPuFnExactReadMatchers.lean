/- The plain statement of the law FnExactReadMatchers: for all arguments in range it answers true; no further condition. -/
import Derived.Test.YtlibcibpflfboaaDoorPrxgfda1fn3
import Derived.Test.YtlibcibpflfboaaDoorVFnExactReadMatchers
import Derived.Test.YtlibcibpflfboaaDoorWFFnExactReadMatchers
namespace Go.Proofs.YtlibcibpflfboaaDoor.PuFnExactReadMatchers
open Go.RowKit Go.Proofs.YtlibcibpflfboaaDoor.Pr Go.Proofs.YtlibcibpflfboaaDoorW.PrintWords Go.Proofs.YtlibcibpflfboaaDoorW.PrintLast Go.Proofs.YtlibcibpflfboaaDoorW.PrintMore Go.Proofs.YtlibcibpflfboaaDoor.U Go.Proofs.YtlibcibpflfboaaDoor.WFFnExactReadMatchers
set_option linter.unusedVariables false
set_option linter.unusedSimpArgs false

theorem pure : Pure := by
  intro s hs
  refine Ev.rounds (g := fun k => laws_FnExactReadMatchers.f k s) ?_
  unfold laws_FnExactReadMatchers.f
  refine ev_ite (fun _ => ev_now _) (fun h1 => ?_)
  have e1 := readMatchers_spec s (by omega)
  have e2 := readMatchers_impl s (by omega)
  have hr := readM_len s
  generalize readM s = r at e1 e2 hr
  obtain ⟨l, b⟩ := r
  have hl : l.length ≤ 1048576 := Nat.le_trans hr (by omega)
  obtain ⟨y1, c1, m1, hh1, a1, b1⟩ := markMatcherS l hl 1 (by omega) (by omega)
  have ev := eqMatcherS l hl
  refine ev_bind e1 (ev_bind e2 (ev_bind ev (ev_pos rfl ?_)))
  refine ev_step (fun _ => laws_FnExactReadMatchers.j0.eq_2 ..) (ev_neg (by simp) (ev_bind m1 (ev_bind hh1 (ev_neg (by omega) (ev_pos rfl (ev_bind e2 (ev_bind ev (ev_pos rfl ?_))))))))
  exact ev_step (fun _ => laws_FnExactReadMatchers.j1.eq_2 ..) (ev_neg (by simp) (ev_bind hh1 (ev_neg (by omega) (ev_pos rfl (ev_now _)))))
end Go.Proofs.YtlibcibpflfboaaDoor.PuFnExactReadMatchers
