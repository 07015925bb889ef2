/- The plain statement of the law FnExactJoinLabels: for all arguments in range it answers true; no further condition. -/
import Derived.Test.YtfdbbpnmnogddaaPrxg6b3cbl1
import Derived.Test.YtfdbbpnmnogddaaPrxg6b3cbl2
import Derived.Test.YtfdbbpnmnogddaaVFnExactJoinLabels
import Derived.Test.YtfdbbpnmnogddaaWFFnExactJoinLabels
namespace Go.Proofs.Ytfdbbpnmnogddaa.PuFnExactJoinLabels
open Go.RowKit Go.Proofs.Ytfdbbpnmnogddaa.Pr Go.Proofs.YtfdbbpnmnogddaaW.PrintWords Go.Proofs.YtfdbbpnmnogddaaW.PrintLast Go.Proofs.YtfdbbpnmnogddaaW.PrintMore Go.Proofs.Ytfdbbpnmnogddaa.U Go.Proofs.Ytfdbbpnmnogddaa.WFFnExactJoinLabels
set_option linter.unusedVariables false
set_option linter.unusedSimpArgs false
theorem pure : Pure:=by
  intro l ev li ho rs q ⟨hm,hw⟩ _ _ ⟨hm2,hw2⟩ ⟨hm3,hw3⟩
  refine Ev.rounds (g:=fun k => laws_FnExactJoinLabels.f k l ev li ho rs q) ?_
  unfold laws_FnExactJoinLabels.f
  obtain ⟨r,e,hr,hs⟩ : ∃ r,Ev (fun k => laws_szTarget.f k l ev li ho rs 1048576) r ∧ r ≤ 1048576 ∧ (0 ≤ r → (l.length ≤ 1048576 ∧ ∀ y ∈ l,sm52 y) ∧ (rs.length ≤ 1048576 ∧ ∀ y ∈ rs,sm76 y)):=by
    unfold laws_szTarget.f
    obtain ⟨r,e,hr,hs⟩:=szLabelS l 1048576 (by omega) (by omega) hm hw
    by_cases n0 : r < 0
    · exact ⟨-1,ev_bind e (ev_pos n0 (ev_now _)),by omega,fun h => absurd h (by decide)⟩
    obtain ⟨r2,e2,hr2,hs2⟩:=szRelabelS rs r (by omega) hr hm2 (fun x hx => by have h:=hw2 x hx;exact ⟨h.2.1,h.2.2.1,h.2.2.2.1,h.2.2.2.2.1,h.2.2.2.2.2.1⟩)
    by_cases n1 : r2 < 0
    · exact ⟨-1,ev_bind e (ev_neg n0 (ev_bind e2 (ev_pos n1 (ev_now _)))),by omega,fun h => absurd h (by decide)⟩
    · exact ⟨r2,ev_bind e (ev_neg n0 (ev_bind e2 (ev_neg n1 (ev_now _)))),by omega,fun h => ⟨hs (by omega),hs2 (by omega)⟩⟩
  refine ev_bind e (ev_ite (fun _ => ev_now _) (fun h0 => ?_))
  obtain ⟨r2,e2,hr2,hs2⟩:=szLabelS q r (by omega) hr hm3 hw3
  refine ev_bind e2 (ev_ite (fun _ => ev_now _) (fun h1 => ?_))
  obtain ⟨hl,hrs⟩:=hs (by omega)
  have hq:=hs2 (by omega)
  have hq2 : (q.map cv52).length ≤ 1048576:=by simpa using hq.1
  have t:=to_target l ev li ho rs hl hrs
  have tq:=toLabelS q hq
  obtain ⟨o,b,hob,e3,e4⟩:=joinl_two (l.map cv52) ev li ho (rs.map cv76) (q.map cv52) (fitL_cv l hl) (fitL_cv q hq) (fitRs_cv rs hrs)
  have eo:=eqLabelS o hob
  obtain ⟨bm,em,hbm,hb0,hb1⟩:=mark_target (l.map cv52) ev li ho (rs.map cv76) (by rw [List.length_map];exact hl.1) (by rw [List.length_map];exact hrs.1) (fun x hx => seR_cv rs hrs x hx)
  obtain ⟨y2,c2,m2,_,a2,b2⟩:=markLabelS _ hq2 bm.1 hb0 (by omega)
  obtain ⟨y3,c3,m3,h3,a3,b3⟩:=markLabelS o hob 1 (by omega) (by omega)
  refine ev_bind t (ev_bind tq (ev_bind e4 (ev_bind t (ev_bind tq (ev_bind e3 (ev_bind eo (ev_pos rfl (ev_pos rfl (ev_bind t (ev_bind (eq_target l ev li ho rs hl hrs) (ev_pos rfl (ev_bind tq (ev_bind (eqLabelS _ hq2) (ev_pos rfl (ev_bind em (ev_bind m2 (ev_neg (show ¬ c2 < 0 by omega) (ev_bind eo (ev_pos rfl (ev_pos rfl ?_))))))))))))))))))))
  exact ev_bind m3 (ev_bind h3 (ev_neg (by omega) (ev_pos rfl (ev_bind t (ev_bind tq (ev_bind e3 (ev_bind eo (ev_pos rfl (ev_pos rfl (ev_bind h3 (ev_neg (by omega) (ev_pos rfl (ev_now _)))))))))))))
end Go.Proofs.Ytfdbbpnmnogddaa.PuFnExactJoinLabels
