/- The plain statement of the law FnExactGoodFamily: for all arguments in range it answers true; no further condition. -/
import Derived.Test.YtfdbbpnmnogddaaGreatDoorPrxgaa1fel1
import Derived.Test.YtfdbbpnmnogddaaGreatDoorPrxgaa1fel2
import Derived.Test.YtfdbbpnmnogddaaGreatDoorVFnExactGoodFamily
import Derived.Test.YtfdbbpnmnogddaaGreatDoorWFFnExactGoodFamily
namespace Go.Proofs.YtfdbbpnmnogddaaGreatDoor.PuFnExactGoodFamily
open Go.RowKit Go.Proofs.YtfdbbpnmnogddaaGreatDoor.Pr Go.Proofs.YtfdbbpnmnogddaaGreatDoorW.PrintWords Go.Proofs.YtfdbbpnmnogddaaGreatDoorW.PrintLast Go.Proofs.YtfdbbpnmnogddaaGreatDoorW.PrintMore Go.Proofs.YtfdbbpnmnogddaaGreatDoor.U Go.Proofs.YtfdbbpnmnogddaaGreatDoor.WFFnExactGoodFamily
set_option linter.unusedVariables false
set_option linter.unusedSimpArgs false
theorem ff_cv {nm hp : ByteArray} (hn : nm.size ≤ 1048576) (hh : hp.size ≤ 1048576) (l : List S63) (h : l.length ≤ 1048576 ∧ ∀ x ∈ l,sm63 x) : FF nm hp (l.map cv63):=by
  refine ⟨hn,hh,by rw [List.length_map];exact h.1,fun p hp_ => ?_⟩
  obtain ⟨y,hy,rfl⟩:=List.mem_map.1 hp_
  obtain ⟨a,b,c⟩:=h.2 y hy
  have b' : (y.f1.length ≤ 1048576 ∧ ∀ x ∈ y.f1,sm102 x):=b
  have c' : (y.f5.f1.length ≤ 1048576 ∧ ∀ x ∈ y.f5.f1,sm102 x):=c
  exact ⟨fitL_cv _ b',fitL_cv _ c',a,by show (y.f1.map _).length ≤ _;rw [List.length_map];exact b'.1⟩
theorem seP_cv (l : List S63) (h : l.length ≤ 1048576 ∧ ∀ x ∈ l,sm63 x) : ∀ p ∈ l.map cv63,se46 p:=by
  intro p hp_
  obtain ⟨y,hy,rfl⟩:=List.mem_map.1 hp_
  obtain ⟨a,b,c⟩:=h.2 y hy
  have b' : (y.f1.length ≤ 1048576 ∧ ∀ x ∈ y.f1,sm102 x):=b
  have c' : (y.f5.f1.length ≤ 1048576 ∧ ∀ x ∈ y.f5.f1,sm102 x):=c
  refine ⟨?_,?_⟩
  · show (y.f1.map _).length ≤ _
    rw [List.length_map];exact b'.1
  · show (y.f5.f1.map _).length ≤ _
    rw [List.length_map];exact c'.1
theorem pure : Pure:=by
  intro nm kd hp l w1 _ w3 ⟨hm,hw⟩
  refine Ev.rounds (g:=fun k => laws_FnExactGoodFamily.f k nm kd hp l) ?_
  have hsw : ∀ x ∈ l,sw63 x:=fun x hx => by
    obtain ⟨p,q,_,_,_,_,s,_⟩:=hw x hx
    exact ⟨p,q,s⟩
  simp only [maxLen] at w1 w3
  unfold laws_FnExactGoodFamily.f
  have e' : ∃ q,Ev (fun k => laws_szFamily.f k nm kd hp l 1048576) q ∧ (0 ≤ q → nm.size ≤ 1048576 ∧ hp.size ≤ 1048576 ∧ l.length ≤ 1048576 ∧ ∀ x ∈ l,sm63 x):=by
    unfold laws_szFamily.f
    have x0 : wrap64 (1048576 - (nm.size : Int)) = 1048576 - (nm.size : Int):=w64 (by omega) (by omega)
    rw [x0]
    by_cases n0 : 1048576 - (nm.size : Int) < 0
    · exact ⟨-1,ev_pos n0 (ev_now _),fun h => absurd h (by decide)⟩
    have x1 : wrap64 (1048576 - (nm.size : Int) - (hp.size : Int)) = 1048576 - (nm.size : Int) - (hp.size : Int):=w64 (by omega) (by omega)
    rw [x1]
    by_cases n1 : 1048576 - (nm.size : Int) - (hp.size : Int) < 0
    · exact ⟨-1,ev_neg n0 (ev_pos n1 (ev_now _)),fun h => absurd h (by decide)⟩
    obtain ⟨r,e,hr,hs⟩:=szPointS l (1048576 - (nm.size : Int) - (hp.size : Int)) (by omega) (by omega) hm hsw
    by_cases n2 : r < 0
    · exact ⟨-1,ev_neg n0 (ev_neg n1 (ev_bind e (ev_pos n2 (ev_now _)))),fun h => absurd h (by decide)⟩
    · exact ⟨_,ev_neg n0 (ev_neg n1 (ev_bind e (ev_neg n2 (ev_now _)))),fun h => ⟨by omega,by omega,hs h⟩⟩
  obtain ⟨q,eq,hq⟩:=e'
  refine ev_bind eq (ev_ite (fun _ => ev_now _) (fun hn => ?_))
  obtain ⟨q0,q1,hl⟩:=hq (by omega)
  have hf:=ff_cv q0 q1 l hl
  have e1:=fam_impl nm kd hp _ hf
  have e2:=fam_spec nm kd hp _ hf
  have th : Ev (fun k => laws_toFamily.f k nm kd hp l) (nm,kd,hp,l.map cv63):=ev_bind (toPointS l hl) (ev_now _)
  have eh : Ev (fun k => laws_eqFamily.f k nm kd hp (l.map cv63) nm kd hp (l.map cv63)) true:=ev_pos rfl (ev_pos rfl (ev_pos rfl (ev_bind (eqPointS _ hf.len (seP_cv l hl)) (ev_pos rfl (ev_now _)))))
  exact ev_bind th (ev_bind e2 (ev_bind th (ev_bind e1 (ev_neg (by simp) (ev_bind th (ev_bind eh (ev_pos rfl (ev_now _))))))))
end Go.Proofs.YtfdbbpnmnogddaaGreatDoor.PuFnExactGoodFamily
