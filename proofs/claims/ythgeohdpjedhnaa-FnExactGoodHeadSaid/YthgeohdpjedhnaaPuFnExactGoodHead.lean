/- The plain statement of the law FnExactGoodHead: for all arguments in range it answers true; no further condition. -/
import Derived.Test.YthgeohdpjedhnaaPrxg3ed36n1
import Derived.Test.YthgeohdpjedhnaaPrxg3ed36n2
import Derived.Test.YthgeohdpjedhnaaVFnExactGoodHead
import Derived.Test.YthgeohdpjedhnaaWFFnExactGoodHead
namespace Go.Proofs.Ythgeohdpjedhnaa.PuFnExactGoodHead
open Go.RowKit Go.Proofs.Ythgeohdpjedhnaa.Pr Go.Proofs.YthgeohdpjedhnaaW.PrintWords Go.Proofs.YthgeohdpjedhnaaW.PrintLast Go.Proofs.YthgeohdpjedhnaaW.PrintMore Go.Proofs.Ythgeohdpjedhnaa.U Go.Proofs.Ythgeohdpjedhnaa.WFFnExactGoodHead
set_option linter.unusedVariables false
set_option linter.unusedSimpArgs false

theorem pure : Pure := by
  intro a b c l _ _ _ ⟨hm, hw⟩
  refine Ev.rounds (g := fun k => laws_FnExactGoodHead.f k a b c l) ?_
  obtain ⟨r, e, hr, hs⟩ := szSeriesS l 1048576 (by omega) (by omega) hm hw
  unfold laws_FnExactGoodHead.f
  have e' : Ev (fun k => laws_szHead.f k a b c l 1048576) (if r < 0 then -1 else r) := by
    unfold laws_szHead.f
    exact ev_bind e (ev_ite3 (fun _ => ev_now _) (fun _ => ev_now _))
  refine ev_bind e' (ev_ite (fun _ => ev_now _) (fun hn => ?_))
  have hl := hs (by split at hn <;> omega)
  have hl2 : (l.map cv100).length ≤ 1048576 := by simpa using hl.1
  have hf := fitS_cv l hl
  obtain ⟨v, e1, e2⟩ := head_two a b c _ hf
  have th : Ev (fun k => laws_toHead.f k a b c l) (a, b, c, l.map cv100) := ev_bind (toSeriesS l hl) (ev_now _)
  have eh : Ev (fun k => laws_eqHead.f k a b c (l.map cv100) a b c (l.map cv100)) true := ev_pos rfl (ev_pos rfl (ev_pos rfl (ev_bind (eqSeriesS _ hl2 (seS_cv l hl)) (ev_pos rfl (ev_now _)))))
  exact ev_bind th (ev_bind e2 (ev_bind th (ev_bind e1 (ev_neg (by simp) (ev_bind th (ev_bind eh (ev_pos rfl (ev_now _))))))))

end Go.Proofs.Ythgeohdpjedhnaa.PuFnExactGoodHead
