/- The plain statement of the law FnExactMergeSeries: for all arguments in range it answers true; no further condition. -/
import Derived.Test.YtfdbbpnmnogddaaPrxg4e368l2
import Derived.Test.YtfdbbpnmnogddaaVFnExactMergeSeries
import Derived.Test.YtfdbbpnmnogddaaWFFnExactMergeSeries
namespace Go.Proofs.Ytfdbbpnmnogddaa.PuFnExactMergeSeries
open Go.RowKit Go.Proofs.Ytfdbbpnmnogddaa.Pr Go.Proofs.YtfdbbpnmnogddaaW.PrintWords Go.Proofs.YtfdbbpnmnogddaaW.PrintLast Go.Proofs.YtfdbbpnmnogddaaW.PrintMore Go.Proofs.Ytfdbbpnmnogddaa.U Go.Proofs.Ytfdbbpnmnogddaa.WFFnExactMergeSeries
set_option linter.unusedVariables false
set_option linter.unusedSimpArgs false
theorem pure : Pure:=by
  intro l m ⟨hm,hw⟩ ⟨hm2,hw2⟩
  refine Ev.rounds (g:=fun k => laws_FnExactMergeSeries.f k l m) ?_
  obtain ⟨r,e,hr,hs⟩:=szSeriesS l 1048576 (by omega) (by omega) hm hw
  unfold laws_FnExactMergeSeries.f
  refine ev_bind e (ev_ite (fun _ => ev_now _) (fun hn => ?_))
  have hl:=hs (by omega)
  obtain ⟨r2,e2,hr2,hs2⟩:=szSeriesS m r (by omega) (by omega) hm2 hw2
  refine ev_bind e2 (ev_ite (fun _ => ev_now _) (fun hn2 => ?_))
  have gm:=hs2 (by omega)
  have hl2 : (l.map cv65).length ≤ 1048576:=by simpa using hl.1
  have hm3 : (m.map cv65).length ≤ 1048576:=by simpa using gm.1
  have hse:=seS_cv l hl
  have hse2:=seS_cv m gm
  obtain ⟨v,hv1,hv2,i1,s1⟩:=ms_two (l.map cv65) (m.map cv65) (fitS_cv l hl) (fitS_cv m gm) hse hse2
  have tl:=toSeriesS l hl
  have tm:=toSeriesS m gm
  have el:=eqSeriesS _ hl2 hse
  have em:=eqSeriesS _ hm3 hse2
  have ev:=eqSeriesS v hv1 hv2
  obtain ⟨y1,c1,m1,q1,p1⟩:=mark_series1 (l.map cv65) hl2 hse 1 (by omega) (by omega)
  obtain ⟨y2,c2,m2,q2⟩ : ∃ y c',Ev (fun k => laws_markSeriesS.f k (m.map cv65) c1) (c',y) ∧ c1 ≤ c':=by
    obtain ⟨y,c',g,q,_⟩:=mark_series1_l (m.map cv65).length hm3 (m.map cv65).length 0 (m.map cv65) c1 rfl (by omega) (fun x hx => hse2 x (by simpa using hx)) (by omega) (by omega)
    exact ⟨y,c',g,q⟩
  obtain ⟨y3,c3,m3,h3,q3⟩:=mark_series v hv1 hv2 1 (by omega) (by omega)
  exact ev_bind tl (ev_bind tm (ev_bind s1 (ev_bind tl (ev_bind tm (ev_bind i1 (ev_bind ev (ev_pos rfl (ev_bind tl (ev_bind el (ev_pos rfl (ev_bind tm (ev_bind em (ev_pos rfl (ev_bind m1 (ev_bind m2 (ev_neg (by omega) (ev_bind ev (ev_pos rfl (ev_bind m3 (ev_bind h3 (ev_neg (by omega) (ev_pos rfl (ev_bind tl (ev_bind tm (ev_bind i1 (ev_bind ev (ev_pos rfl (ev_bind h3 (ev_neg (by omega) (ev_pos rfl (ev_now _)))))))))))))))))))))))))))))))
end Go.Proofs.Ytfdbbpnmnogddaa.PuFnExactMergeSeries
