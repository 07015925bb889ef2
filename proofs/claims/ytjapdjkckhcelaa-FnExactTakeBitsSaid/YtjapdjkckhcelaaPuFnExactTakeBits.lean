/- The plain statement of the law FnExactTakeBits: for all arguments in range it answers true; no further condition. -/
import Derived.Test.YtjapdjkckhcelaaPrxgd1ec8n2
import Derived.Test.YtjapdjkckhcelaaUB
import Derived.Test.YtjapdjkckhcelaaUX
import Derived.Test.YtjapdjkckhcelaaUHByteS
import Derived.Test.YtjapdjkckhcelaaUBITS
import Derived.Test.YtjapdjkckhcelaaUTBITS
import Derived.Test.YtjapdjkckhcelaaWFFnExactTakeBits
namespace Go.Proofs.Ytjapdjkckhcelaa.PuFnExactTakeBits
open Go.RowKit Go.Proofs.Ytjapdjkckhcelaa.Pr Go.Proofs.YtjapdjkckhcelaaW.PrintWords Go.Proofs.YtjapdjkckhcelaaW.PrintLast Go.Proofs.YtjapdjkckhcelaaW.PrintMore Go.Proofs.Ytjapdjkckhcelaa.U Go.Proofs.Ytjapdjkckhcelaa.WFFnExactTakeBits
set_option linter.unusedVariables false
set_option linter.unusedSimpArgs false

theorem pure : Pure := by
  intro l z a n ⟨hm, hb⟩ hz ha hn
  refine Ev.rounds (g := fun k => laws_FnExactTakeBits.f k l z a n) ?_
  obtain ⟨r, e, hs⟩ := szBits l hm z
  unfold laws_FnExactTakeBits.f
  refine ev_bind (ev_eq e) (ev_ite (fun _ => ev_now _) (fun hn => ?_))
  have hl := hs (by omega)
  have tl := toBits l hl z
  refine ev_bind tl (ev_bind (take_spec l hb hl z a n hz) (ev_bind tl (ev_bind (take_impl l hb hl z a n hz ha) (ev_pos rfl ?_))))
  exact ev_step (fun _ => laws_FnExactTakeBits.j0.eq_2 ..) (ev_neg (by simp) (ev_bind tl (ev_bind (eqBits l hl z) (ev_pos rfl (ev_now _)))))

end Go.Proofs.Ytjapdjkckhcelaa.PuFnExactTakeBits
