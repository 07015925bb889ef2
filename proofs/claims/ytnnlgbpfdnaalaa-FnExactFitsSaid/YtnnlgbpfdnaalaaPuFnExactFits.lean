/- The plain statement of the law FnExactFits: for all arguments in range it answers true; no further condition. -/
import Derived.Test.YtnnlgbpfdnaalaaPrxgfb3dfn1
import Derived.Test.YtnnlgbpfdnaalaaVFnExactFits
import Derived.Test.YtnnlgbpfdnaalaaWFFnExactFits
namespace Go.Proofs.Ytnnlgbpfdnaalaa.PuFnExactFits
open Go.RowKit Go.Proofs.Ytnnlgbpfdnaalaa.Pr Go.Proofs.YtnnlgbpfdnaalaaW.PrintWords Go.Proofs.YtnnlgbpfdnaalaaW.PrintLast Go.Proofs.YtnnlgbpfdnaalaaW.PrintMore Go.Proofs.Ytnnlgbpfdnaalaa.U Go.Proofs.Ytnnlgbpfdnaalaa.WFFnExactFits
set_option linter.unusedVariables false
set_option linter.unusedSimpArgs false

theorem pure : Pure := by
  intro m l ⟨hm, hw⟩ ⟨hm2, hw2⟩
  refine Ev.rounds (g := fun k => laws_FnExactFits.f k m l) ?_
  unfold laws_FnExactFits.f
  obtain ⟨r, e, hr, hs⟩ := szMatcherS m 1048576 (by omega) (by omega) hm (fun x hx => ⟨(hw x hx).1, (hw x hx).2.2⟩)
  refine ev_bind e (ev_ite (fun _ => ev_now _) (fun hn => ?_))
  obtain ⟨r2, e2, hr2, hs2⟩ := szLabelS l r (by omega) hr hm2 hw2
  refine ev_bind e2 (ev_ite (fun _ => ev_now _) (fun hn2 => ?_))
  have gm := hs (by omega)
  have gl := hs2 (by omega)
  have tm := toMatcherS m gm
  have tl := toLabelS l gl
  have fm := fitM_cv m gm
  have fl := fitL_cv l gl
  have hl2 : (m.map cv86).length ≤ 1048576 := by simpa using gm.1
  have hl3 : (l.map cv103).length ≤ 1048576 := by simpa using gl.1
  exact ev_bind tm (ev_bind tl (ev_bind (Fits_spec _ _ (by omega) fm fl) (ev_bind tm (ev_bind tl (ev_bind (Fits_impl _ _ (by omega) fm fl) (ev_neg (by simp) (ev_bind tm (ev_bind (eqMatcherS _ hl2) (ev_pos rfl (ev_bind tl (ev_bind (eqLabelS _ hl3) (ev_pos rfl (ev_now _)))))))))))))

end Go.Proofs.Ytnnlgbpfdnaalaa.PuFnExactFits
