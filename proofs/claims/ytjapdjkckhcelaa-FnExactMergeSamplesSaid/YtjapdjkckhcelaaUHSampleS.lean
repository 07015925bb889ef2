/- Plain lemmas over the printed functions, for the laws' plain statements; each theorem states its own conditions. -/
import Derived.Test.YtjapdjkckhcelaaPrxg12584n1
import Derived.Test.YtjapdjkckhcelaaPrxg12584n2
import Derived.Test.YtjapdjkckhcelaaPrxg1cf53n1
import Derived.Test.YtjapdjkckhcelaaPrxgf8879n1
import Derived.Test.YtjapdjkckhcelaaUB
import Derived.Test.YtjapdjkckhcelaaUHSample
namespace Go.Proofs.Ytjapdjkckhcelaa.U
open Go.RowKit Go.Proofs.Ytjapdjkckhcelaa.Pr Go.Proofs.YtjapdjkckhcelaaW.PrintWords Go.Proofs.YtjapdjkckhcelaaW.PrintLast Go.Proofs.YtjapdjkckhcelaaW.PrintMore
set_option linter.unusedVariables false
set_option linter.unusedSimpArgs false

theorem toSampleS (l : List (S90)) (hl : l.length ≤ 1048576) : Ev (fun k => laws_toSampleS.f k l) (l.map cv90) := by
  unfold laws_toSampleS.f
  repeat (first | (with_reducible refine ev_pos (by first | omega | rfl | decide) ?_) | (with_reducible refine ev_neg (by first | omega | decide) ?_))
  have key := ev_copy (F := fun k y i => laws_toSampleS.l0 k l y i) cv90 l (List.replicate ((l.length : Int) : Int).toNat z37) (by simp) ?step ?done
  case step =>
    intro i h y r hy hr
    refine ev_step (fun _ => laws_toSampleS.l0.eq_2 ..) ?_
    repeat (first | (with_reducible refine ev_pos (by first | omega | rfl | decide) ?_) | (with_reducible refine ev_neg (by first | omega | decide) ?_))
    rw [(show rd_T90 l (i : Int) = l[i] from getD_lt h)]
    refine ev_bind (toSample l[i] ) ?_
    repeat (first | (with_reducible refine ev_pos (by first | omega | rfl | decide) ?_) | (with_reducible refine ev_neg (by first | omega | decide) ?_))
    rw [w64n h (by omega), Int.toNat_natCast]
    exact hr
  case done =>
    intro y hy
    refine ev_step (fun _ => laws_toSampleS.l0.eq_2 ..) ?_
    repeat (first | (with_reducible refine ev_pos (by first | omega | rfl | decide) ?_) | (with_reducible refine ev_neg (by first | omega | decide) ?_))
    exact ev_now _
  exact key
theorem eqSampleS (l : List (S37)) (hl : l.length ≤ 1048576) : Ev (fun k => laws_eqSampleS.f k l l) true := by
  unfold laws_eqSampleS.f
  refine ev_pos rfl ?_
  refine up_ind l.length (fun i => Ev (fun k => laws_eqSampleS.l0 k l l (i : Int)) true) ?_ ?_ 0 (by omega)
  · refine ev_step (fun _ => laws_eqSampleS.l0.eq_2 ..) ?_
    refine ev_neg (by omega) ?_
    exact ev_now _
  · intro i h ih
    refine ev_step (fun _ => laws_eqSampleS.l0.eq_2 ..) ?_
    repeat (first | (with_reducible refine ev_pos (by first | omega | rfl | decide) ?_) | (with_reducible refine ev_neg (by first | omega | decide) ?_))
    refine ev_bind (eqSample _) ?_
    refine ev_pos rfl ?_
    rw [w64n h (by omega)]
    exact ih
theorem szSampleS (l : List (S90)) (c : Int) (h0 : 0 ≤ c) (h1 : c ≤ 1048576) (hl : l.length ≤ maxLen)  : ∃ r, Ev (fun _ => laws_szSampleS.f l c) r ∧ r ≤ c ∧ (0 ≤ r → l.length ≤ 1048576) := by
  simp only [maxLen] at hl
  unfold laws_szSampleS.f
  rw [w64 (x := c - (l.length : Int)) (by omega) (by omega)]
  by_cases hn : c - (l.length : Int) < 0
  · exact ⟨-1, ev_pos hn (ev_now _), by omega, fun h => absurd h (by decide)⟩
  · exact ⟨_, ev_neg hn (ev_now _), by omega, fun _ => by omega⟩
theorem markSampleS (l : List (S37)) (hl : l.length ≤ 1048576) (c : Int) (h0 : 0 < c) (h1 : c ≤ 4611686018427387904) : ∃ y c', Ev (fun k => laws_markSampleS.f k l c) (c', y) ∧ Ev (fun k => laws_heldSampleS.f k y c) c' ∧ c ≤ c' ∧ c' ≤ c + 2 * l.length := by
  have key := up_ind l.length (fun i => ∀ (x : List (S37)) (c : Int), x.length = l.length → 0 < c → c + 2 * (l.length - i : Nat) ≤ 9000000000000000000 → ∃ y c', Ev (fun k => laws_markSampleS.l0 k x c (i : Int)) (c', y) ∧ Ev (fun k => laws_heldSampleS.l0 k y c (i : Int)) c' ∧ y.length = l.length ∧ (∀ j, j < i → y[j]? = x[j]?) ∧ c ≤ c' ∧ c' ≤ c + 2 * (l.length - i : Nat)) ?d ?s 0 (by omega) l c rfl h0 (by omega)
  case d =>
    intro x c hx h0 h1
    refine ⟨x, c, ev_step (fun _ => laws_markSampleS.l0.eq_2 ..) (ev_neg (by omega) (ev_now _)), ev_step (fun _ => laws_heldSampleS.l0.eq_2 ..) (ev_neg (by omega) (ev_now _)), hx, fun _ _ => rfl, by omega, by omega⟩
  case s =>
    intro i h ih x c hx h0 h1
    have w1 : wrap64 (c + 1) = c + 1 := (w64 (by omega) (by omega)).trans (by omega)
    have w2 : wrap64 ((c + 1) + 1) = c + 2 := (w64 (by omega) (by omega)).trans (by omega)
    have wi : wrap64 ((i : Int) + 1) = ((i + 1 : Nat) : Int) := w64n h (by omega)
    have hset : ∀ a, rd_T37 (x.set i a) (i : Int) = a := fun a => by rw [show rd_T37 (x.set i a) (i : Int) = (x.set i a)[i]'(by simp; omega) from getD_lt (by simp; omega)]; simp
    obtain ⟨y, c', e1, e2, hy, hj, q1, q2⟩ := ih (x.set i ⟨c, (c + 1)⟩) (c + 2) (by simp [hx]) (by omega) (by omega)
    refine ⟨y, c', ev_step (fun _ => laws_markSampleS.l0.eq_2 ..) ?_, ev_step (fun _ => laws_heldSampleS.l0.eq_2 ..) ?_, hy, fun j h' => ?_, by omega, by omega⟩
    · simp only [w1, w2, wi, Int.toNat_natCast]
      repeat (first | (with_reducible refine ev_pos (by first | omega | rfl | decide) ?_) | (with_reducible refine ev_some ?_))
      simp only [hset, List.set_set]
      exact e1
    · have ey : rd_T37 y (i : Int) = ⟨c, (c + 1)⟩ := by
        have := hj i (by omega)
        rw [List.getElem?_set_self (by omega), List.getElem?_eq_getElem (by omega)] at this
        rw [show rd_T37 y (i : Int) = y[i]'(by omega) from getD_lt (by omega)]
        exact Option.some.inj this
      simp only [ey, w1, w2, wi]
      repeat (first | (with_reducible refine ev_pos (by first | omega | rfl | decide) ?_))
      exact e2
    · rw [hj j (by omega), List.getElem?_set_ne (by omega)]
  obtain ⟨y, c', e1, e2, _, _, q1, q2⟩ := key
  exact ⟨y, c', e1, e2, q1, by omega⟩

end Go.Proofs.Ytjapdjkckhcelaa.U
