/- Plain lemmas over the printed functions, for the laws' plain statements; each theorem states its own conditions. -/
import Derived.Test.YtjapdjkckhcelaaPrxgd801bn1
import Derived.Test.YtjapdjkckhcelaaPrxgd801bn2
import Derived.Test.YtjapdjkckhcelaaPrxge3834n3
import Derived.Test.YtjapdjkckhcelaaPrxge3834n4
import Derived.Test.YtjapdjkckhcelaaUB
namespace Go.Proofs.Ytjapdjkckhcelaa.U
open Go.RowKit Go.Proofs.Ytjapdjkckhcelaa.Pr Go.Proofs.YtjapdjkckhcelaaW.PrintWords Go.Proofs.YtjapdjkckhcelaaW.PrintLast Go.Proofs.YtjapdjkckhcelaaW.PrintMore
set_option linter.unusedVariables false
set_option linter.unusedSimpArgs false

theorem toByteS (l : List Int) (hl : l.length ≤ 1048576) : Ev (fun k => laws_toByteS.f k l) (l) := by
  unfold laws_toByteS.f
  repeat (first | (with_reducible refine ev_pos (by first | omega | rfl | decide) ?_) | (with_reducible refine ev_neg (by first | omega | decide) ?_))
  have key := ev_copy (F := fun k y i => laws_toByteS.l0 k l y i) (fun x => x) l (List.replicate ((l.length : Int) : Int).toNat 0) (by simp) ?step ?done
  case step =>
    intro i h y r hy hr
    refine ev_step (fun _ => laws_toByteS.l0.eq_2 ..) ?_
    repeat (first | (with_reducible refine ev_pos (by first | omega | rfl | decide) ?_) | (with_reducible refine ev_neg (by first | omega | decide) ?_))
    rw [rd_at h, w64n h (by omega), Int.toNat_natCast]
    exact hr
  case done =>
    intro y hy
    refine ev_step (fun _ => laws_toByteS.l0.eq_2 ..) ?_
    repeat (first | (with_reducible refine ev_pos (by first | omega | rfl | decide) ?_) | (with_reducible refine ev_neg (by first | omega | decide) ?_))
    exact ev_now _
  simpa using key
theorem eqByteS (l : List Int) (hl : l.length ≤ 1048576) : Ev (fun k => laws_eqByteS.f k l l) true := by
  unfold laws_eqByteS.f
  refine ev_pos rfl ?_
  refine up_ind l.length (fun i => Ev (fun k => laws_eqByteS.l0 k l l (i : Int)) true) ?_ ?_ 0 (by omega)
  · refine ev_step (fun _ => laws_eqByteS.l0.eq_2 ..) ?_
    refine ev_neg (by omega) ?_
    exact ev_now _
  · intro i h ih
    refine ev_step (fun _ => laws_eqByteS.l0.eq_2 ..) ?_
    repeat (first | (with_reducible refine ev_pos (by first | omega | rfl | decide) ?_) | (with_reducible refine ev_neg (by first | omega | decide) ?_))
    rw [w64n h (by omega)]
    exact ih
theorem szByteS (l : List Int) (c : Int) (h0 : 0 ≤ c) (h1 : c ≤ 1048576) (hl : l.length ≤ maxLen)  : ∃ r, Ev (fun _ => laws_szByteS.f l c) r ∧ r ≤ c ∧ (0 ≤ r → l.length ≤ 1048576) := by
  simp only [maxLen] at hl
  unfold laws_szByteS.f
  rw [w64 (x := c - (l.length : Int)) (by omega) (by omega)]
  by_cases hn : c - (l.length : Int) < 0
  · exact ⟨-1, ev_pos hn (ev_now _), by omega, fun h => absurd h (by decide)⟩
  · exact ⟨_, ev_neg hn (ev_now _), by omega, fun _ => by omega⟩
theorem markByteS (l : List Int) (hl : l.length ≤ 1048576) (c : Int) (h0 : 0 < c) (h1 : c ≤ 4611686018427387904) : ∃ y c', Ev (fun k => laws_markByteS.f k l c) (c', y) ∧ Ev (fun k => laws_heldByteS.f k y c) c' ∧ c ≤ c' ∧ c' ≤ c + 1 * l.length := by
  have key := up_ind l.length (fun i => ∀ (x : List Int) (c : Int), x.length = l.length → 0 < c → c + 1 * (l.length - i : Nat) ≤ 9000000000000000000 → ∃ y c', Ev (fun k => laws_markByteS.l0 k x c (i : Int)) (c', y) ∧ Ev (fun k => laws_heldByteS.l0 k y c (i : Int)) c' ∧ y.length = l.length ∧ (∀ j, j < i → y[j]? = x[j]?) ∧ c ≤ c' ∧ c' ≤ c + 1 * (l.length - i : Nat)) ?d ?s 0 (by omega) l c rfl h0 (by omega)
  case d =>
    intro x c hx h0 h1
    refine ⟨x, c, ev_step (fun _ => laws_markByteS.l0.eq_2 ..) (ev_neg (by omega) (ev_now _)), ev_step (fun _ => laws_heldByteS.l0.eq_2 ..) (ev_neg (by omega) (ev_now _)), hx, fun _ _ => rfl, by omega, by omega⟩
  case s =>
    intro i h ih x c hx h0 h1
    obtain ⟨y, c', e1, e2, hy, hj, q1, q2⟩ := ih (x.set i (c % 256)) (c + 1) (by simp [hx]) (by omega) (by omega)
    refine ⟨y, c', ev_step (fun _ => laws_markByteS.l0.eq_2 ..) ?_, ev_step (fun _ => laws_heldByteS.l0.eq_2 ..) ?_, hy, fun j h' => ?_, by omega, by omega⟩
    · repeat (first | (with_reducible refine ev_pos (by first | omega | rfl | decide) ?_) | (with_reducible refine ev_neg (by first | omega | decide) ?_))
      rw [w64 (x := c + 1) (by omega) (by omega), w64n h (by omega), Int.toNat_natCast]
      exact e1
    · repeat (first | (with_reducible refine ev_pos (by first | omega | rfl | decide) ?_) | (with_reducible refine ev_neg (by first | omega | decide) ?_))
      have ey : rd y (i : Int) = (c % 256) := by
        have := hj i (by omega)
        rw [List.getElem?_set_self (by omega), List.getElem?_eq_getElem (by omega)] at this
        rw [rd_at (by omega)]
        exact Option.some.inj this
      rw [ey]
      refine ev_pos rfl ?_
      rw [w64 (x := c + 1) (by omega) (by omega), w64n h (by omega)]
      exact e2
    · rw [hj j (by omega), List.getElem?_set_ne (by omega)]
  obtain ⟨y, c', e1, e2, _, _, q1, q2⟩ := key
  exact ⟨y, c', e1, e2, q1, by omega⟩

end Go.Proofs.Ytjapdjkckhcelaa.U
