/- The plain statement of the law FnExactRelabelText: for all arguments in range it answers true; no further condition. -/
import Derived.Test.YtknlgignjbghkaaDoorPrxged182n1
import Derived.Test.YtknlgignjbghkaaDoorPrxged182n3
import Derived.Test.YtknlgignjbghkaaDoorPrxged182n5
import Derived.Test.YtknlgignjbghkaaDoorPrxged182n6
import Derived.Test.YtknlgignjbghkaaDoorVFnExactRelabelText
import Derived.Test.YtknlgignjbghkaaDoorWFFnExactRelabelText
namespace Go.Proofs.YtknlgignjbghkaaDoor.PuFnExactRelabelText
open Go.RowKit Go.Proofs.YtknlgignjbghkaaDoor.Pr Go.Proofs.YtknlgignjbghkaaDoorW.PrintWords Go.Proofs.YtknlgignjbghkaaDoorW.PrintLast Go.Proofs.YtknlgignjbghkaaDoorW.PrintMore Go.Proofs.YtknlgignjbghkaaDoor.U Go.Proofs.YtknlgignjbghkaaDoor.WFFnExactRelabelText
set_option linter.unusedVariables false
set_option linter.unusedSimpArgs false

theorem pure : Pure := by
  intro a fr sep pat tg val md _ ⟨hm, hw⟩ w2 w3 w4 w5 _
  refine Ev.rounds (g := fun k => laws_FnExactRelabelText.f k a fr sep pat tg val md) ?_
  obtain ⟨r, e, hr, hs⟩ := szStringS fr 1048576 (by omega) (by omega) hm hw
  simp only [maxLen] at w2 w3 w4 w5
  unfold laws_FnExactRelabelText.f
  have e' : ∃ q, Ev (fun k => laws_szRelabel.f k a fr sep pat tg val md 1048576) q ∧ (0 ≤ q → 0 ≤ r ∧ sep.size ≤ 1048576 ∧ pat.size ≤ 1048576 ∧ tg.size ≤ 1048576 ∧ val.size ≤ 1048576) := by
    unfold laws_szRelabel.f
    by_cases n0 : r < 0
    · exact ⟨-1, ev_bind e (ev_pos n0 (ev_now _)), fun h => absurd h (by decide)⟩
    have x1 : wrap64 (r - (sep.size : Int)) = r - (sep.size : Int) := w64 (by omega) (by omega)
    by_cases n1 : r - (sep.size : Int) < 0
    · exact ⟨-1, ev_bind e (ev_neg n0 (ev_pos (by rw [x1]; exact n1) (ev_now _))), fun h => absurd h (by decide)⟩
    have x2 : wrap64 (r - (sep.size : Int) - (pat.size : Int)) = r - (sep.size : Int) - (pat.size : Int) := w64 (by omega) (by omega)
    by_cases n2 : r - (sep.size : Int) - (pat.size : Int) < 0
    · exact ⟨-1, ev_bind e (ev_neg n0 (ev_neg (by rw [x1]; exact n1) (ev_pos (by rw [x1, x2]; exact n2) (ev_now _)))), fun h => absurd h (by decide)⟩
    have x3 : wrap64 (r - (sep.size : Int) - (pat.size : Int) - (tg.size : Int)) = r - (sep.size : Int) - (pat.size : Int) - (tg.size : Int) := w64 (by omega) (by omega)
    by_cases n3 : r - (sep.size : Int) - (pat.size : Int) - (tg.size : Int) < 0
    · exact ⟨-1, ev_bind e (ev_neg n0 (ev_neg (by rw [x1]; exact n1) (ev_neg (by rw [x1, x2]; exact n2) (ev_pos (by rw [x1, x2, x3]; exact n3) (ev_now _))))), fun h => absurd h (by decide)⟩
    have x4 : wrap64 (r - (sep.size : Int) - (pat.size : Int) - (tg.size : Int) - (val.size : Int)) = r - (sep.size : Int) - (pat.size : Int) - (tg.size : Int) - (val.size : Int) := w64 (by omega) (by omega)
    by_cases n4 : r - (sep.size : Int) - (pat.size : Int) - (tg.size : Int) - (val.size : Int) < 0
    · exact ⟨-1, ev_bind e (ev_neg n0 (ev_neg (by rw [x1]; exact n1) (ev_neg (by rw [x1, x2]; exact n2) (ev_neg (by rw [x1, x2, x3]; exact n3) (ev_pos (by rw [x1, x2, x3, x4]; exact n4) (ev_now _)))))), fun h => absurd h (by decide)⟩
    · exact ⟨_, ev_bind e (ev_neg n0 (ev_neg (by rw [x1]; exact n1) (ev_neg (by rw [x1, x2]; exact n2) (ev_neg (by rw [x1, x2, x3]; exact n3) (ev_neg (by rw [x1, x2, x3, x4]; exact n4) (ev_now _)))))), fun h => ⟨by omega, by omega, by omega, by omega, by omega⟩⟩
  obtain ⟨q, eq, hq⟩ := e'
  refine ev_bind eq (ev_ite (fun _ => ev_now _) (fun hn => ?_))
  obtain ⟨q0, q1, q2, q3, q4⟩ := hq (by omega)
  have hl := hs q0
  obtain ⟨v, e1, e2⟩ := rtext_two a fr sep pat tg val md hl.1 hl.2 (by omega) (by omega) (by omega) (by omega)
  have th : Ev (fun k => laws_toRelabel.f k a fr sep pat tg val md) (a, fr, sep, pat, tg, val, md) := ev_bind (toStringS fr hl) (ev_now _)
  have eh : Ev (fun k => laws_eqRelabel.f k a fr sep pat tg val md a fr sep pat tg val md) true := ev_pos rfl (ev_bind (eqStringS fr hl.1) (ev_pos rfl (ev_pos rfl (ev_pos rfl (ev_pos rfl (ev_pos rfl (ev_pos rfl (ev_now _))))))))
  exact ev_bind th (ev_bind e2 (ev_bind th (ev_bind e1 (ev_pos rfl (ev_bind th (ev_bind eh (ev_pos rfl (ev_now _))))))))

end Go.Proofs.YtknlgignjbghkaaDoor.PuFnExactRelabelText
