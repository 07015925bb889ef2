/- The plain statement of the law FnExactGoodBlock: for all arguments in range it answers true; no further condition. -/
import Derived.Test.YtknlgignjbghkaaPrxgeba1cn1
import Derived.Test.YtknlgignjbghkaaPrxgeba1cn3
import Derived.Test.YtknlgignjbghkaaPrxgeba1cn5
import Derived.Test.YtknlgignjbghkaaVFnExactGoodBlock
import Derived.Test.YtknlgignjbghkaaWFFnExactGoodBlock
namespace Go.Proofs.Ytknlgignjbghkaa.PuFnExactGoodBlock
open Go.RowKit Go.Proofs.Ytknlgignjbghkaa.Pr Go.Proofs.YtknlgignjbghkaaW.PrintWords Go.Proofs.YtknlgignjbghkaaW.PrintLast Go.Proofs.YtknlgignjbghkaaW.PrintMore Go.Proofs.Ytknlgignjbghkaa.U Go.Proofs.Ytknlgignjbghkaa.WFFnExactGoodBlock
set_option linter.unusedVariables false
set_option linter.unusedSimpArgs false

theorem fitT_cv (l : List S130) (h : l.length ≤ 1048576 ∧ ∀ x ∈ l, sm130 x) : fitT (l.map cv130) := by
  refine ⟨by rw [List.length_map]; omega, fun x hx => ?_⟩
  obtain ⟨y, hy, rfl⟩ := List.mem_map.1 hx
  exact fitL_cv _ (h.2 y hy)
theorem seT_cv (l : List S130) (h : l.length ≤ 1048576 ∧ ∀ x ∈ l, sm130 x) : ∀ x ∈ l.map cv130, se87 x := by
  intro x hx
  obtain ⟨y, hy, rfl⟩ := List.mem_map.1 hx
  show (y.f0.map _).length ≤ _
  rw [List.length_map]
  exact (h.2 y hy).1
theorem pure : Pure := by
  intro a b c l s _ _ _ ⟨hm, hw⟩ ⟨hm2, hw2⟩
  refine Ev.rounds (g := fun k => laws_FnExactGoodBlock.f k a b c l s) ?_
  obtain ⟨r, e, hr, hs⟩ := szSeriesS l 1048576 (by omega) (by omega) hm hw
  unfold laws_FnExactGoodBlock.f
  by_cases hn : r < 0
  · have e' : Ev (fun k => laws_szBlock.f k a b c l s 1048576) (-1) := ev_bind e (ev_pos hn (ev_now _))
    exact ev_bind e' (ev_pos (by decide) (ev_now _))
  obtain ⟨r2, e2, hr2, hs2⟩ := szStoneS s r (by omega) (by omega) hm2 (fun x hx => (hw2 x hx).1)
  have e' : Ev (fun k => laws_szBlock.f k a b c l s 1048576) (if r2 < 0 then -1 else r2) := ev_bind e (ev_neg hn (ev_bind e2 (ev_ite3 (fun _ => ev_now _) (fun _ => ev_now _))))
  refine ev_bind e' (ev_ite (fun _ => ev_now _) (fun hn2 => ?_))
  have hl := hs (by omega)
  have hl2 := hs2 (by split at hn2 <;> omega)
  have t : Ev (fun k => laws_toBlock.f k a b c l s) (a, b, c, l.map cv98, s.map cv130) := ev_bind (toSeriesS l hl) (ev_bind (toStoneS s hl2) (ev_now _))
  have q : Ev (fun k => laws_eqBlock.f k a b c (l.map cv98) (s.map cv130) a b c (l.map cv98) (s.map cv130)) true := ev_pos rfl (ev_pos rfl (ev_pos rfl (ev_bind (eqSeriesS _ (by rw [List.length_map]; exact hl.1) (seS_cv l hl)) (ev_pos rfl (ev_bind (eqStoneS _ (by rw [List.length_map]; exact hl2.1) (seT_cv s hl2)) (ev_pos rfl (ev_now _)))))))
  exact ev_bind t (ev_bind (blk_spec a b c _ _ (fitS_cv l hl) (fitT_cv s hl2)) (ev_bind t (ev_bind (blk_impl a b c _ _ (fitS_cv l hl) (fitT_cv s hl2)) (ev_neg (by simp) (ev_bind t (ev_bind q (ev_pos rfl (ev_now _))))))))

end Go.Proofs.Ytknlgignjbghkaa.PuFnExactGoodBlock
