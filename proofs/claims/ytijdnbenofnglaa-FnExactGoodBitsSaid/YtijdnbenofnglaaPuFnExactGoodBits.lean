/- The plain statement of the law FnExactGoodBits: for all arguments in range it answers true; no further condition. -/
import Derived.Test.YtijdnbenofnglaaPrx24
import Derived.Test.YtijdnbenofnglaaUB
import Derived.Test.YtijdnbenofnglaaUX
import Derived.Test.YtijdnbenofnglaaUHByteS
import Derived.Test.YtijdnbenofnglaaUBITS
import Derived.Test.YtijdnbenofnglaaWFFnExactGoodBits
namespace Go.Proofs.Ytijdnbenofnglaa.PuFnExactGoodBits
open Go.RowKit Go.Proofs.Ytijdnbenofnglaa.Pr Go.Proofs.YtijdnbenofnglaaW.PrintWords Go.Proofs.YtijdnbenofnglaaW.PrintLast Go.Proofs.YtijdnbenofnglaaW.PrintMore Go.Proofs.Ytijdnbenofnglaa.U Go.Proofs.Ytijdnbenofnglaa.WFFnExactGoodBits
set_option linter.unusedVariables false
set_option linter.unusedSimpArgs false

theorem pure : Pure := by
  intro l z ⟨hm, hb⟩ hz
  refine Ev.rounds (g := fun k => laws_FnExactGoodBits.f k l z) ?_
  obtain ⟨r, e, hs⟩ := szBits l hm z
  unfold laws_FnExactGoodBits.f
  refine ev_bind (ev_eq e) (ev_ite (fun _ => ev_now _) (fun hn => ?_))
  have hl := hs (by omega)
  exact ev_bind (toBits l hl z) (ev_bind (goodBits_spec l hb hl z hz) (ev_bind (toBits l hl z) (ev_bind (ev_eq (goodBits_impl l (by omega) z hz)) (ev_neg (by simp) (ev_bind (toBits l hl z) (ev_bind (eqBits l hl z) (ev_pos rfl (ev_now _))))))))

end Go.Proofs.Ytijdnbenofnglaa.PuFnExactGoodBits
