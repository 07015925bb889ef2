/- The plain statement of the law FnExactFillValue: for all arguments in range it answers true; no further condition. -/
import Derived.Test.YtbejcmfpmoaddaaPrxgb38b7n1
import Derived.Test.YtbejcmfpmoaddaaVFnExactFillValue
import Derived.Test.YtbejcmfpmoaddaaWFFnExactFillValue
namespace Go.Proofs.Ytbejcmfpmoaddaa.PuFnExactFillValue
open Go.RowKit Go.Proofs.Ytbejcmfpmoaddaa.Pr Go.Proofs.YtbejcmfpmoaddaaW.PrintWords Go.Proofs.YtbejcmfpmoaddaaW.PrintLast Go.Proofs.YtbejcmfpmoaddaaW.PrintMore Go.Proofs.Ytbejcmfpmoaddaa.U Go.Proofs.Ytbejcmfpmoaddaa.WFFnExactFillValue
set_option linter.unusedVariables false
set_option linter.unusedSimpArgs false

theorem pure : Pure := by
  intro s ps hs ⟨hm, hw⟩
  refine Ev.rounds (g := fun k => laws_FnExactFillValue.f k s ps) ?_
  unfold laws_FnExactFillValue.f
  refine ev_ite (fun _ => ev_now _) (fun hn => ?_)
  obtain ⟨r, e, hr, hz⟩ := szStringS ps 1048576 (by omega) (by omega) hm hw
  refine ev_bind e (ev_ite (fun _ => ev_now _) (fun hn2 => ?_))
  have hl := hz (by omega)
  have t := toStringS ps hl
  obtain ⟨v, e1, e2⟩ := fillValue_two s ps (by omega) hl.2
  exact ev_bind t (ev_bind e2 (ev_bind t (ev_bind e1 (ev_pos rfl (ev_bind t (ev_bind (eqStringS ps hl.1) (ev_pos rfl (ev_now _))))))))

end Go.Proofs.Ytbejcmfpmoaddaa.PuFnExactFillValue
