/- The plain statement of the law FnExactRelabelAll: for all arguments in range it answers true; no further condition. -/
import Derived.Test.YtacaelfdmlegdaaGreatDoorPrxg074fai1
import Derived.Test.YtacaelfdmlegdaaGreatDoorPrxg074fal1
import Derived.Test.YtacaelfdmlegdaaGreatDoorPrxg074fas1
import Derived.Test.YtacaelfdmlegdaaGreatDoorPrxg4cbd6i2
import Derived.Test.YtacaelfdmlegdaaGreatDoorPrxg4cbd6s2
import Derived.Test.YtacaelfdmlegdaaGreatDoorVFnExactRelabelAll
import Derived.Test.YtacaelfdmlegdaaGreatDoorWFFnExactRelabelAll
namespace Go.Proofs.YtacaelfdmlegdaaGreatDoor.PuFnExactRelabelAll
open Go.RowKit Go.Proofs.YtacaelfdmlegdaaGreatDoor.Pr Go.Proofs.YtacaelfdmlegdaaGreatDoorW.PrintWords Go.Proofs.YtacaelfdmlegdaaGreatDoorW.PrintLast Go.Proofs.YtacaelfdmlegdaaGreatDoorW.PrintMore Go.Proofs.YtacaelfdmlegdaaGreatDoor.U Go.Proofs.YtacaelfdmlegdaaGreatDoor.WFFnExactRelabelAll
set_option linter.unusedVariables false
set_option linter.unusedSimpArgs false
theorem all_two (rs : List S32) (hr : rs.length ≤ 1048576) (hs : ∀ x ∈ rs,fitR x ∧ x.f3.size ≤ 1048576 ∧ x.f4.size ≤ 1048576 ∧ relB x = true) : ∀ i,i ≤ rs.length → ∀ l : List S53,goodL l = true → ∃ (r : List S53) (b : Bool),r.length ≤ 1048576 ∧ Ev (fun k => impl_RelabelAll.l0 k l rs (rs.length : Int) (i : Int)) (r,b) ∧ Ev (fun k => spec_l4All.l0 k l rs (rs.length : Int) (i : Int)) (r,b):=by
  have hrd : ∀ (i : Nat) (h : i < rs.length),rd_T32 rs (i : Int) = rs[i]:=fun i h => getD_lt h
  refine up_ind rs.length _ ?_ ?_
  · intro l hg
    have:=(goodL_all hg).1
    exact ⟨l,true,by omega,ev_step (fun _ => impl_RelabelAll.l0.eq_2 ..) (ev_neg (by omega) (ev_now _)),ev_step (fun _ => spec_l4All.l0.eq_2 ..) (ev_neg (by omega) (ev_now _))⟩
  · intro i h ih l hg
    have wi : wrap64 ((i : Int) + 1) = ((i + 1 : Nat) : Int):=w64n h (by omega)
    obtain ⟨hx,x3,x4,hb⟩:=hs rs[i] (List.getElem_mem h)
    have e:=(relB_two _ hx).1
    rw [hb] at e
    obtain ⟨h1,h2,h3,h4,h5⟩:=hx
    obtain ⟨q1,q2,q3,q4,q5,q6⟩:=rel_good _ _ _ _ _ _ _ h5 h4 h3 h2 h1 e
    obtain ⟨v1,v2,b,w1,w2,w3⟩:=apply_two l _ _ _ _ _ _ _ hg q1 q2 q3 q4 x3 x4 q5 q6
    cases b with
    | false =>
      refine ⟨[],false,by simp,ev_step (fun _ => impl_RelabelAll.l0.eq_2 ..) (ev_pos (by omega) (ev_pos (by omega) (ev_pos (by omega) ?_))),ev_step (fun _ => spec_l4All.l0.eq_2 ..) (ev_pos (by omega) (ev_pos (by omega) (ev_pos (by omega) ?_)))⟩
      · rw [hrd i h];exact ev_bind w1 (ev_neg Bool.false_ne_true (ev_now _))
      · rw [hrd i h];exact ev_bind w2 (ev_neg Bool.false_ne_true (ev_now _))
    | true =>
      obtain ⟨rfl,gv⟩:=w3 rfl
      obtain ⟨r,b,hr,k1,k2⟩:=ih v1 gv
      refine ⟨r,b,hr,ev_step (fun _ => impl_RelabelAll.l0.eq_2 ..) (ev_pos (by omega) (ev_pos (by omega) (ev_pos (by omega) ?_))),ev_step (fun _ => spec_l4All.l0.eq_2 ..) (ev_pos (by omega) (ev_pos (by omega) (ev_pos (by omega) ?_)))⟩
      · rw [hrd i h,wi];exact ev_bind w1 (ev_pos rfl k1)
      · rw [hrd i h,wi];exact ev_bind w2 (ev_pos rfl k2)
theorem rall_two (l : List S53) (hf : fitL l) (rs : List S32) (hr : rs.length ≤ 1048576) (hs : ∀ x ∈ rs,fitR x ∧ x.f3.size ≤ 1048576 ∧ x.f4.size ≤ 1048576) :
    ∃ (r : List S53) (b : Bool),r.length ≤ 1048576 ∧ Ev (fun k => impl_RelabelAll.f k l rs) (r,b) ∧ Ev (fun k => spec_RelabelAll.f k l rs) (r,b):=by
  have no1 : Ev (fun k => impl_RelabelAll.j0 k l rs true) ([],false):=ev_step (fun _ => impl_RelabelAll.j0.eq_2 ..) (ev_pos rfl (ev_now _))
  have fr : fitRs rs:=⟨by omega,fun x hx => (hs x hx).1⟩
  have sr:=rules_spec rs fr
  have ir : Ev (fun k => any_38_39.f k rs) (rs.any fun x => !(relB x)):=any_Relabel (fun k x => impl_RelabelAll_1.f k x.f0 x.f1 x.f2 x.f3 x.f4 x.f5 x.f6) (fun x => !(relB x)) rs fr.1 (fun x hx => ev_bind (relB_two x (fr.2 x hx)).1 (ev_now _))
  unfold impl_RelabelAll.f spec_RelabelAll.f
  by_cases g : goodL l = true
  · cases c : rulesB rs with
    | false =>
      rw [c] at sr
      refine ⟨[],false,by simp,ev_bind (goodLabels_impl l hf) (ev_pos g (ev_ite (fun _ => no1) (fun q => ev_bind ir ?_))),ev_bind (goodLabels_spec l hf) (ev_pos g (ev_bind sr (ev_neg (by decide) (ev_now _))))⟩
      unfold rulesB at c
      rw [decide_eq_true (by omega),Bool.true_and] at c
      rw [show (rs.any fun x => !(relB x)) = true from by rw [← List.not_all_eq_any_not,c];rfl]
      exact no1
    | true =>
      rw [c] at sr
      unfold rulesB at c
      rw [Bool.and_eq_true,decide_eq_true_eq] at c
      have gl:=(goodL_all g).1
      obtain ⟨r,b,hr,k1,k2⟩:=all_two rs hr (fun x hx => ⟨(hs x hx).1,(hs x hx).2.1,(hs x hx).2.2,List.all_eq_true.1 c.2 x hx⟩) 0 (by omega) l g
      refine ⟨r,b,hr,ev_bind (goodLabels_impl l hf) (ev_pos g (ev_neg (by omega) (ev_bind ir ?_))),ev_bind (goodLabels_spec l hf) (ev_pos g (ev_bind sr (ev_pos rfl (ev_bind (a:=(r,b)) ?_ (ev_now _)))))⟩
      · rw [show (rs.any fun x => !(relB x)) = false from by rw [← List.not_all_eq_any_not,c.2];rfl]
        exact ev_step (fun _ => impl_RelabelAll.j0.eq_2 ..) (ev_neg (by decide) (ev_bind (ev_eq (show impl_Label_40.f l = some l by unfold impl_Label_40.f;rw [if_pos (by omega)])) k1))
      · unfold spec_l4All.f
        exact ev_bind (ev_eq (show spec_l3Copy.f l = some l by unfold spec_l3Copy.f;rw [if_pos (by simp only [List.length_nil];omega),List.nil_append])) k2
  · exact ⟨[],false,by simp,ev_bind (goodLabels_impl l hf) (ev_neg g no1),ev_bind (goodLabels_spec l hf) (ev_neg g (ev_now _))⟩
theorem pure : Pure:=by
  intro l rs ⟨hml,hwl⟩ ⟨hm2,hw2⟩
  refine Ev.rounds (g:=fun k => laws_FnExactRelabelAll.f k l rs) ?_
  unfold laws_FnExactRelabelAll.f
  obtain ⟨r,e,hr,hs⟩:=szLabelS l 1048576 (by omega) (by omega) hml hwl
  refine ev_bind e (ev_ite (fun _ => ev_now _) (fun h0 => ?_))
  obtain ⟨r2,e2,hr2,hs2⟩:=szRelabelS rs r (by omega) (by omega) hm2 (fun x hx => by have h:=hw2 x hx;exact ⟨h.2.1,h.2.2.1,h.2.2.2.1,h.2.2.2.2.1,h.2.2.2.2.2.1⟩)
  refine ev_bind e2 (ev_ite (fun _ => ev_now _) (fun h1 => ?_))
  have hl:=hs (by omega)
  have hrs:=hs2 (by omega)
  have hl2 : (l.map cv49).length ≤ 1048576:=by simpa using hl.1
  have hr3 : (rs.map cv25).length ≤ 1048576:=by simpa using hrs.1
  have tl:=toLabelS l hl
  have tr:=toRelabelS rs hrs
  have fr:=fitRs_cv rs hrs
  have hse:=seR_cv rs hrs
  obtain ⟨o,b,ho,e3,e4⟩:=rall_two _ (fitL_cv l hl) (rs.map cv25) hr3 (fun x hx => ⟨fr.2 x hx,by
    obtain ⟨y,hy,rfl⟩:=List.mem_map.1 hx
    obtain ⟨_,_,h3,h4,_⟩:=hrs.2 y hy
    exact ⟨h3,h4⟩⟩)
  have er:=eqRelabelS _ hr3 hse
  have eo:=eqLabelS o ho
  obtain ⟨y1,c1,m1,_,a1,b1⟩:=markLabelS _ hl2 1 (by omega) (by omega)
  obtain ⟨y2,c2,m2,h2⟩:=mark_rules (rs.map cv25).length hr3 (rs.map cv25).length 0 (rs.map cv25) c1 rfl (by omega) (fun r h => hse r (by simpa using h)) (by omega) (by omega)
  have m2' : Ev (fun k => laws_markRelabelS.f k (rs.map cv25) c1) (c2,y2):=by unfold laws_markRelabelS.f;exact m2
  obtain ⟨y3,c3,m3,h3,a3,b3⟩:=markLabelS o ho 1 (by omega) (by omega)
  refine ev_bind tl (ev_bind tr (ev_bind e4 (ev_bind tl (ev_bind tr (ev_bind e3 (ev_bind eo (ev_pos rfl (ev_pos rfl (ev_bind tl (ev_bind (eqLabelS _ hl2) (ev_pos rfl (ev_bind tr (ev_bind er (ev_pos rfl (ev_bind m1 (ev_bind m2' (ev_neg (show ¬ c2 < 0 by omega) (ev_bind eo (ev_pos rfl (ev_pos rfl ?_))))))))))))))))))))
  exact ev_bind m3 (ev_bind h3 (ev_neg (by omega) (ev_pos rfl (ev_bind tl (ev_bind tr (ev_bind e3 (ev_bind eo (ev_pos rfl (ev_pos rfl (ev_bind h3 (ev_neg (by omega) (ev_pos rfl (ev_now _)))))))))))))
end Go.Proofs.YtacaelfdmlegdaaGreatDoor.PuFnExactRelabelAll
