/- The plain statement of the law FnExactGoodFamilies: for all arguments in range it answers true; no further condition. -/
import Derived.Test.YtfdbbpnmnogddaaGreatDoorPrxg167f2l1
import Derived.Test.YtfdbbpnmnogddaaGreatDoorVFnExactGoodFamilies
import Derived.Test.YtfdbbpnmnogddaaGreatDoorWFFnExactGoodFamilies
namespace Go.Proofs.YtfdbbpnmnogddaaGreatDoor.PuFnExactGoodFamilies
open Go.RowKit Go.Proofs.YtfdbbpnmnogddaaGreatDoor.Pr Go.Proofs.YtfdbbpnmnogddaaGreatDoorW.PrintWords Go.Proofs.YtfdbbpnmnogddaaGreatDoorW.PrintLast Go.Proofs.YtfdbbpnmnogddaaGreatDoorW.PrintMore Go.Proofs.YtfdbbpnmnogddaaGreatDoor.U Go.Proofs.YtfdbbpnmnogddaaGreatDoor.WFFnExactGoodFamilies
set_option linter.unusedVariables false
set_option linter.unusedSimpArgs false
theorem fitP_cv {y:S63}(h:sm63 y):(fitL (cv63 y).f1/\fitL (cv63 y).f5.f1/\(cv63 y).f0.size<=1048576/\(cv63 y).f1.length<=1048576)/\se46 (cv63 y):=by
  obtain ⟨a,b,c⟩:=h
  have b':(y.f1.length<=1048576/\∀ x∈y.f1,sm102 x):=b
  have c':(y.f5.f1.length<=1048576/\∀ x∈y.f5.f1,sm102 x):=c
  have hb:(y.f1.map cv102).length<=1048576:=by rw [List.length_map];exact b'.1
  have hc:(y.f5.f1.map cv102).length<=1048576:=by rw [List.length_map];exact c'.1
  exact ⟨⟨fitL_cv _ b',fitL_cv _ c',a,hb⟩,hb,hc⟩
theorem fq_cv {y:S24}(h:sm24 y):FQ (cv24 y)/\se29 (cv24 y):=by
  obtain ⟨a,b,c⟩:=h
  have c':(y.f3.length<=1048576/\∀ x∈y.f3,sm63 x):=c
  have hc:(y.f3.map cv63).length<=1048576:=by rw [List.length_map];exact c'.1
  refine ⟨⟨a,b,hc,fun p hp => ?_⟩,hc,fun p hp => ?_⟩
  · obtain ⟨z,hz,rfl⟩:=List.mem_map.1 hp
    exact (fitP_cv (c'.2 z hz)).1
  · obtain ⟨z,hz,rfl⟩:=List.mem_map.1 hp
    exact (fitP_cv (c'.2 z hz)).2
theorem pure:Pure:=by
  intro l ⟨hm,hw⟩
  refine Ev.rounds (g:=fun k=>laws_FnExactGoodFamilies.f k l) ?_
  have hsw:∀ x∈l,sw24 x:=fun x hx=>by
    obtain ⟨p,_,q,s,hs⟩:=hw x hx
    refine ⟨p,q,s,fun y hy => ?_⟩
    obtain ⟨p1,q1,_,_,_,_,s1,_⟩:=hs y hy
    exact ⟨p1,q1,s1⟩
  obtain ⟨r,e,hr,hs⟩:=szFamilyS l 1048576 (by omega) (by omega) hm hsw
  unfold laws_FnExactGoodFamilies.f
  refine ev_bind e (ev_ite (fun _=>ev_now _) (fun hn => ?_))
  have hl:=hs (by omega)
  have hlen:(l.map cv24).length<=1048576:=by rw [List.length_map];exact hl.1
  have hF:∀ f∈l.map cv24,FQ f/\se29 f:=fun f hf=>by
    obtain ⟨z,hz,rfl⟩:=List.mem_map.1 hf
    exact fq_cv (hl.2 z hz)
  have e1:=fams_impl _ hlen (fun f hf=>(hF f hf).1)
  have e2:=fams_spec _ hlen (fun f hf=>(hF f hf).1)
  have th:=toFamilyS l hl
  have eh:=eqFamilyS _ hlen (fun f hf=>(hF f hf).2)
  exact ev_bind th (ev_bind e2 (ev_bind th (ev_bind e1 (ev_neg (by simp) (ev_bind th (ev_bind eh (ev_pos rfl (ev_now _))))))))
end Go.Proofs.YtfdbbpnmnogddaaGreatDoor.PuFnExactGoodFamilies
