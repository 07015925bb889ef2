/- The plain statement of the law FnExactSelectHead: for all arguments in range it answers true; no further condition. -/
import Derived.Test.YthkhflhmnjgbnaaGreatPrxgc64c7n1
import Derived.Test.YthkhflhmnjgbnaaGreatPrxgc64c7n4
import Derived.Test.YthkhflhmnjgbnaaGreatPrxgc64c7n7
import Derived.Test.YthkhflhmnjgbnaaGreatPrxgc64c7n8
import Derived.Test.YthkhflhmnjgbnaaGreatVFnExactSelectHead
import Derived.Test.YthkhflhmnjgbnaaGreatWFFnExactSelectHead
namespace Go.Proofs.YthkhflhmnjgbnaaGreat.PuFnExactSelectHead
open Go.RowKit Go.Proofs.YthkhflhmnjgbnaaGreat.Pr Go.Proofs.YthkhflhmnjgbnaaGreatW.PrintWords Go.Proofs.YthkhflhmnjgbnaaGreatW.PrintLast Go.Proofs.YthkhflhmnjgbnaaGreatW.PrintMore Go.Proofs.YthkhflhmnjgbnaaGreat.U Go.Proofs.YthkhflhmnjgbnaaGreat.WFFnExactSelectHead
set_option linter.unusedVariables false
set_option linter.unusedSimpArgs false

theorem pure : Pure := by
  intro a b c l m p q _ _ _ ⟨hm, hw⟩ ⟨hm2, hw2⟩ _ _
  refine Ev.rounds (g := fun k => laws_FnExactSelectHead.f k a b c l m p q) ?_
  obtain ⟨r, e, hr, hs⟩ := szSeriesS l 1048576 (by omega) (by omega) hm hw
  unfold laws_FnExactSelectHead.f
  have e' : Ev (fun k => laws_szHead.f k a b c l 1048576) (if r < 0 then -1 else r) := by
    unfold laws_szHead.f
    exact ev_bind e (ev_ite3 (fun _ => ev_now _) (fun _ => ev_now _))
  refine ev_bind e' (ev_ite (fun _ => ev_now _) (fun hn => ?_))
  have hr0 : 0 ≤ r := by split at hn <;> omega
  have hl := hs hr0
  have hre : (if r < 0 then (-1 : Int) else r) = r := if_neg (by omega)
  obtain ⟨r2, e2, hr2, hs2⟩ := szMatcherS m r hr0 hr hm2 (fun x hx => ⟨(hw2 x hx).1, (hw2 x hx).2.2⟩)
  rw [hre]
  refine ev_bind e2 (ev_ite (fun _ => ev_now _) (fun hn2 => ?_))
  have gm := hs2 (by omega)
  have hl2 : (l.map cv65).length ≤ 1048576 := by simpa using hl.1
  have hm3 : (m.map cv45).length ≤ 1048576 := by simpa using gm.1
  have hf := fitS_cv l hl
  have hse := seS_cv l hl
  have fm := fitM_cv m gm
  obtain ⟨v, hv1, hv2, i1, s1⟩ := selHead_two a b c (l.map cv65) (m.map cv45) p q hf hl2 (by omega) fm hse
  have th : Ev (fun k => laws_toHead.f k a b c l) (a, b, c, l.map cv65) := ev_bind (toSeriesS l hl) (ev_now _)
  have eh : Ev (fun k => laws_eqHead.f k a b c (l.map cv65) a b c (l.map cv65)) true := ev_pos rfl (ev_pos rfl (ev_pos rfl (ev_bind (eqSeriesS _ hl2 hse) (ev_pos rfl (ev_now _)))))
  have tm := toMatcherS m gm
  have em := eqMatcherS _ hm3
  have ev := eqSeriesS v hv1 hv2
  obtain ⟨y1, c1, m1, q1, p1⟩ := mark_series1 (l.map cv65) hl2 hse 1 (by omega) (by omega)
  obtain ⟨y2, m2⟩ := mark_matchers (m.map cv45).length hm3 (m.map cv45).length 0 (m.map cv45) c1 rfl (by omega) (by omega) (by omega)
  have mh : Ev (fun k => laws_markHead.f k a b c (l.map cv65) 1) (c1, y1) := m1
  have mm : Ev (fun k => laws_markMatcherS.f k (m.map cv45) c1) (c1 + 3 * ((m.map cv45).length : Int), y2) := m2
  obtain ⟨y3, c3, m3, h3, q3⟩ := mark_series v hv1 hv2 1 (by omega) (by omega)
  exact ev_bind th (ev_bind tm (ev_bind s1 (ev_bind th (ev_bind tm (ev_bind i1 (ev_bind ev (ev_pos rfl (ev_bind th (ev_bind eh (ev_pos rfl (ev_bind tm (ev_bind em (ev_pos rfl (ev_bind mh (ev_bind mm (ev_neg (by omega) (ev_bind ev (ev_pos rfl (ev_bind m3 (ev_bind h3 (ev_neg (by omega) (ev_pos rfl (ev_bind th (ev_bind tm (ev_bind i1 (ev_bind ev (ev_pos rfl (ev_bind h3 (ev_neg (by omega) (ev_pos rfl (ev_now _)))))))))))))))))))))))))))))))
end Go.Proofs.YthkhflhmnjgbnaaGreat.PuFnExactSelectHead
