/- The plain statement of the law FnExactPullTimes: for all arguments in range it answers true; no further condition. -/
import Derived.Test.YtbejcmfpmoaddaaPrxg87244n6
import Derived.Test.YtbejcmfpmoaddaaVFnExactPullTimes
import Derived.Test.YtbejcmfpmoaddaaWFFnExactPullTimes
namespace Go.Proofs.Ytbejcmfpmoaddaa.PuFnExactPullTimes
open Go.RowKit Go.Proofs.Ytbejcmfpmoaddaa.Pr Go.Proofs.YtbejcmfpmoaddaaW.PrintWords Go.Proofs.YtbejcmfpmoaddaaW.PrintLast Go.Proofs.YtbejcmfpmoaddaaW.PrintMore Go.Proofs.Ytbejcmfpmoaddaa.U Go.Proofs.Ytbejcmfpmoaddaa.WFFnExactPullTimes
set_option linter.unusedVariables false
set_option linter.unusedSimpArgs false

theorem pure : Pure := by
  intro l ev li ho rs a b ⟨hm, hw⟩ _ _ ⟨hm2, hw2⟩ _ _
  refine Ev.rounds (g := fun k => laws_FnExactPullTimes.f k l ev li ho rs a b) ?_
  unfold laws_FnExactPullTimes.f
  obtain ⟨r, e, hs⟩ := sz_target l ev li ho rs hm hw hm2 (fun x hx => by have h := hw2 x hx; exact ⟨h.2.1, h.2.2.1, h.2.2.2.1, h.2.2.2.2.1, h.2.2.2.2.2.1⟩)
  refine ev_bind e (ev_ite (fun _ => ev_now _) (fun hn => ?_))
  obtain ⟨hl, hr⟩ := hs (by omega)
  have t := to_target l ev li ho rs hl hr
  have fl := fitL_cv l hl
  have fr := fitRs_cv rs hr
  obtain ⟨v, hv, e1, e2⟩ := pt_two (l.map cv71) ev li ho (rs.map cv74) a b fl fr
  have q := eqIntS v (by omega)
  obtain ⟨bm, em, hbm⟩ := mark_target (l.map cv71) ev li ho (rs.map cv74) (by rw [List.length_map]; exact hl.1) (by rw [List.length_map]; exact hr.1) (fun x hx => seR_cv rs hr x hx)
  obtain ⟨y, c, m1, m2, hc, _⟩ := markIntS v (by omega) 1 (by omega) (by omega)
  exact ev_bind t (ev_bind e2 (ev_bind t (ev_bind e1 (ev_bind q (ev_pos rfl (ev_bind t (ev_bind (eq_target l ev li ho rs hl hr) (ev_pos rfl (ev_bind em (ev_neg hbm (ev_bind q (ev_pos rfl (ev_bind m1 (ev_bind m2 (ev_neg (by omega) (ev_pos rfl (ev_bind t (ev_bind e1 (ev_bind q (ev_pos rfl (ev_bind m2 (ev_neg (by omega) (ev_pos rfl (ev_now _))))))))))))))))))))))))
end Go.Proofs.Ytbejcmfpmoaddaa.PuFnExactPullTimes
