/- The plain statement of the law FnExactApplyRelabel: for all arguments in range it answers true; no further condition. -/
import Derived.Test.YtacaelfdmlegdaaGreatDoorPrxg4cbd6l1
import Derived.Test.YtacaelfdmlegdaaGreatDoorPrxge7dd9l1
import Derived.Test.YtacaelfdmlegdaaGreatDoorVFnExactApplyRelabel
import Derived.Test.YtacaelfdmlegdaaGreatDoorWFFnExactApplyRelabel
namespace Go.Proofs.YtacaelfdmlegdaaGreatDoor.PuFnExactApplyRelabel
open Go.RowKit Go.Proofs.YtacaelfdmlegdaaGreatDoor.Pr Go.Proofs.YtacaelfdmlegdaaGreatDoorW.PrintWords Go.Proofs.YtacaelfdmlegdaaGreatDoorW.PrintLast Go.Proofs.YtacaelfdmlegdaaGreatDoorW.PrintMore Go.Proofs.YtacaelfdmlegdaaGreatDoor.U Go.Proofs.YtacaelfdmlegdaaGreatDoor.WFFnExactApplyRelabel
set_option linter.unusedVariables false
set_option linter.unusedSimpArgs false
theorem pure : Pure:=by
  intro l a fr sep pat tg val md ⟨hml,hwl⟩ _ ⟨hm,hw⟩ w2 w3 w4 w5 _
  refine Ev.rounds (g:=fun k => laws_FnExactApplyRelabel.f k l a fr sep pat tg val md) ?_
  unfold laws_FnExactApplyRelabel.f
  obtain ⟨r,e,hr,hs⟩:=szLabelS l 1048576 (by omega) (by omega) hml hwl
  refine ev_bind e (ev_ite (fun _ => ev_now _) (fun h0 => ?_))
  obtain ⟨r2,e2,hr2,hs2⟩:=szRelabel ⟨a,fr,sep,pat,tg,val,md⟩ r (by omega) (by omega) ⟨⟨hm,hw⟩,w2,w3,w4,w5⟩
  refine ev_bind e2 (ev_ite (fun _ => ev_now _) (fun h1 => ?_))
  have hl:=hs (by omega)
  have hx:=hs2 (by omega)
  have hl2 : (l.map cv49).length ≤ 1048576:=by simpa using hl.1
  have tl:=toLabelS l hl
  have tr:=toRelabel ⟨a,fr,sep,pat,tg,val,md⟩ hx
  obtain ⟨hf,x2,x3,x4,x5⟩:=hx
  have hf1 : fr.length ≤ 1048576:=hf.1
  obtain ⟨o,b,ho,e3,e4⟩:=app_two _ (fitL_cv l hl) a fr sep pat tg val md x5 x4 x3 x2 hf
  have er:=eqRelabel ⟨a,fr,sep,pat,tg,val,md⟩ hf.1
  have eo:=eqLabelS o ho
  obtain ⟨y1,c1,m1,_,a1,b1⟩:=markLabelS _ hl2 1 (by omega) (by omega)
  obtain ⟨y2,m2⟩:=mark_strings fr.length (by omega) fr.length 0 fr c1 rfl (by omega) (by omega) (by omega)
  obtain ⟨y3,c3,m3,h3,a3,b3⟩:=markLabelS o ho 1 (by omega) (by omega)
  have mr : Ev (fun k => laws_markRelabel.f k a fr sep pat tg val md c1) (c1 + (fr.length : Int),y2):=by
    unfold laws_markRelabel.f
    exact ev_bind (a:=(c1 + (fr.length : Int),y2)) (by unfold laws_markStringS.f;exact m2) (ev_now _)
  refine ev_bind tl (ev_bind tr (ev_bind e4 (ev_bind tl (ev_bind tr (ev_bind e3 (ev_bind eo (ev_pos rfl (ev_step (fun _ => laws_FnExactApplyRelabel.j0.eq_2 ..) (ev_neg (by simp) (ev_bind tl (ev_bind (eqLabelS _ hl2) (ev_pos rfl (ev_bind tr (ev_bind er (ev_pos rfl (ev_bind m1 (ev_bind mr (ev_neg (show ¬ c1 + (fr.length : Int) < 0 by omega) (ev_bind eo (ev_pos rfl ?_))))))))))))))))))))
  refine ev_step (fun _ => laws_FnExactApplyRelabel.j1.eq_2 ..) (ev_neg (by simp) (ev_bind m3 (ev_bind h3 (ev_neg (by omega) (ev_pos rfl (ev_bind tl (ev_bind tr (ev_bind e3 (ev_bind eo (ev_pos rfl ?_))))))))))
  exact ev_step (fun _ => laws_FnExactApplyRelabel.j2.eq_2 ..) (ev_neg (by simp) (ev_bind h3 (ev_neg (by omega) (ev_pos rfl (ev_now _)))))
end Go.Proofs.YtacaelfdmlegdaaGreatDoor.PuFnExactApplyRelabel
