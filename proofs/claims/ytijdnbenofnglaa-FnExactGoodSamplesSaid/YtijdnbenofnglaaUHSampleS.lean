/- Plain lemmas over the printed functions, for the laws' plain statements; each theorem states its own conditions. -/
import Derived.Test.YtijdnbenofnglaaPrx18
import Derived.Test.YtijdnbenofnglaaPrx19
import Derived.Test.YtijdnbenofnglaaPrx21
import Derived.Test.YtijdnbenofnglaaUB
import Derived.Test.YtijdnbenofnglaaUHSample
namespace Go.Proofs.Ytijdnbenofnglaa.U
open Go.RowKit Go.Proofs.Ytijdnbenofnglaa.Pr Go.Proofs.YtijdnbenofnglaaW.PrintWords Go.Proofs.YtijdnbenofnglaaW.PrintLast Go.Proofs.YtijdnbenofnglaaW.PrintMore
set_option linter.unusedVariables false
set_option linter.unusedSimpArgs false

theorem toSampleS (l : List (S58)) (hl : l.length ≤ 1048576) : Ev (fun k => laws_toSampleS.f k l) (l.map cv58) := by
  unfold laws_toSampleS.f
  repeat (first | (with_reducible refine ev_pos (by first | omega | rfl | decide) ?_) | (with_reducible refine ev_neg (by first | omega | decide) ?_))
  have key := ev_copy (F := fun k y i => laws_toSampleS.l0 k l y i) cv58 l (List.replicate ((l.length : Int) : Int).toNat z56) (by simp) ?step ?done
  case step =>
    intro i h y r hy hr
    refine ev_step (fun _ => laws_toSampleS.l0.eq_2 ..) ?_
    repeat (first | (with_reducible refine ev_pos (by first | omega | rfl | decide) ?_) | (with_reducible refine ev_neg (by first | omega | decide) ?_))
    rw [(show rd_T58 l (i : Int) = l[i] from getD_lt h)]
    refine ev_bind (toSample l[i] ) ?_
    repeat (first | (with_reducible refine ev_pos (by first | omega | rfl | decide) ?_) | (with_reducible refine ev_neg (by first | omega | decide) ?_))
    rw [w64n h (by omega), Int.toNat_natCast]
    exact hr
  case done =>
    intro y hy
    refine ev_step (fun _ => laws_toSampleS.l0.eq_2 ..) ?_
    repeat (first | (with_reducible refine ev_pos (by first | omega | rfl | decide) ?_) | (with_reducible refine ev_neg (by first | omega | decide) ?_))
    exact ev_now _
  exact key
theorem eqSampleS (l : List (S56)) (hl : l.length ≤ 1048576) : Ev (fun k => laws_eqSampleS.f k l l) true := by
  unfold laws_eqSampleS.f
  refine ev_pos rfl ?_
  refine up_ind l.length (fun i => Ev (fun k => laws_eqSampleS.l0 k l l (i : Int)) true) ?_ ?_ 0 (by omega)
  · refine ev_step (fun _ => laws_eqSampleS.l0.eq_2 ..) ?_
    refine ev_neg (by omega) ?_
    exact ev_now _
  · intro i h ih
    refine ev_step (fun _ => laws_eqSampleS.l0.eq_2 ..) ?_
    repeat (first | (with_reducible refine ev_pos (by first | omega | rfl | decide) ?_) | (with_reducible refine ev_neg (by first | omega | decide) ?_))
    refine ev_bind (eqSample _) ?_
    refine ev_pos rfl ?_
    rw [w64n h (by omega)]
    exact ih
theorem szSampleS (l : List (S58)) (c : Int) (h0 : 0 ≤ c) (h1 : c ≤ 1048576) (hl : l.length ≤ maxLen)  : ∃ r, Ev (fun _ => laws_szSampleS.f l c) r ∧ r ≤ c ∧ (0 ≤ r → l.length ≤ 1048576) := by
  simp only [maxLen] at hl
  unfold laws_szSampleS.f
  rw [w64 (x := c - (l.length : Int)) (by omega) (by omega)]
  by_cases hn : c - (l.length : Int) < 0
  · exact ⟨-1, ev_pos hn (ev_now _), by omega, fun h => absurd h (by decide)⟩
  · exact ⟨_, ev_neg hn (ev_now _), by omega, fun _ => by omega⟩

end Go.Proofs.Ytijdnbenofnglaa.U
