/- Plain lemmas over the printed functions, for the laws' plain statements; each theorem states its own conditions. -/
import Derived.Test.YthgeohdpjedhnaaPrxg0dd73n1
import Derived.Test.YthgeohdpjedhnaaPrxg5570bn5
import Derived.Test.YthgeohdpjedhnaaPrxgcd579n1
import Derived.Test.YthgeohdpjedhnaaUB
import Derived.Test.YthgeohdpjedhnaaUHLabel
import Derived.Test.YthgeohdpjedhnaaUMtext
namespace Go.Proofs.Ythgeohdpjedhnaa.U
open Go.RowKit Go.Proofs.Ythgeohdpjedhnaa.Pr Go.Proofs.YthgeohdpjedhnaaW.PrintWords Go.Proofs.YthgeohdpjedhnaaW.PrintLast Go.Proofs.YthgeohdpjedhnaaW.PrintMore
set_option linter.unusedVariables false
set_option linter.unusedSimpArgs false

theorem toLabelS (l : List (S84)) (hl : (l.length ≤ 1048576 ∧ ∀ y ∈ l, sm84 y)) : Ev (fun k => laws_toLabelS.f k l) (l.map cv84) := by
  obtain ⟨hl, hs⟩ := hl
  unfold laws_toLabelS.f
  repeat (first | (with_reducible refine ev_pos (by first | omega | rfl | decide) ?_) | (with_reducible refine ev_neg (by first | omega | decide) ?_))
  have key := ev_copy (F := fun k y i => laws_toLabelS.l0 k l y i) cv84 l (List.replicate ((l.length : Int) : Int).toNat z86) (by simp) ?step ?done
  case step =>
    intro i h y r hy hr
    refine ev_step (fun _ => laws_toLabelS.l0.eq_2 ..) ?_
    repeat (first | (with_reducible refine ev_pos (by first | omega | rfl | decide) ?_) | (with_reducible refine ev_neg (by first | omega | decide) ?_))
    rw [(show rd_T84 l (i : Int) = l[i] from getD_lt h)]
    refine ev_bind (toLabel l[i] (hs _ (List.getElem_mem h))) ?_
    repeat (first | (with_reducible refine ev_pos (by first | omega | rfl | decide) ?_) | (with_reducible refine ev_neg (by first | omega | decide) ?_))
    rw [w64n h (by omega), Int.toNat_natCast]
    exact hr
  case done =>
    intro y hy
    refine ev_step (fun _ => laws_toLabelS.l0.eq_2 ..) ?_
    repeat (first | (with_reducible refine ev_pos (by first | omega | rfl | decide) ?_) | (with_reducible refine ev_neg (by first | omega | decide) ?_))
    exact ev_now _
  exact key
theorem eqLabelS (l : List (S86)) (hl : l.length ≤ 1048576) : Ev (fun k => laws_eqLabelS.f k l l) true := by
  unfold laws_eqLabelS.f
  refine ev_pos rfl ?_
  refine up_ind l.length (fun i => Ev (fun k => laws_eqLabelS.l0 k l l (i : Int)) true) ?_ ?_ 0 (by omega)
  · refine ev_step (fun _ => laws_eqLabelS.l0.eq_2 ..) ?_
    refine ev_neg (by omega) ?_
    exact ev_now _
  · intro i h ih
    refine ev_step (fun _ => laws_eqLabelS.l0.eq_2 ..) ?_
    repeat (first | (with_reducible refine ev_pos (by first | omega | rfl | decide) ?_) | (with_reducible refine ev_neg (by first | omega | decide) ?_))
    refine ev_bind (eqLabel _) ?_
    refine ev_pos rfl ?_
    rw [w64n h (by omega)]
    exact ih
theorem szLabelS (l : List (S84)) (c : Int) (h0 : 0 ≤ c) (h1 : c ≤ 1048576) (hl : l.length ≤ maxLen) (hw : ∀ x ∈ l, sw84 x) : ∃ r, Ev (fun k => laws_szLabelS.f k l c) r ∧ r ≤ c ∧ (0 ≤ r → (l.length ≤ 1048576 ∧ ∀ y ∈ l, sm84 y)) := by
  simp only [maxLen] at hl
  unfold laws_szLabelS.f
  rw [w64 (x := c - (l.length : Int)) (by omega) (by omega)]
  by_cases hn : c - (l.length : Int) < 0
  · exact ⟨-1, ev_pos hn (ev_now _), by omega, fun h => absurd h (by decide)⟩
  · have key := up_ind l.length (fun i => ∀ c : Int, 0 ≤ c → c ≤ 1048576 → ∃ r, Ev (fun k => laws_szLabelS.l0 k l c (i : Int)) r ∧ r ≤ c ∧ (0 ≤ r → ∀ j (h : j < l.length), i ≤ j → sm84 l[j])) ?d ?s 0 (by omega) (c - (l.length : Int)) (by omega) (by omega)
    case d => exact fun c h0 h1 => ⟨c, ev_step (fun _ => laws_szLabelS.l0.eq_2 ..) (ev_neg (by omega) (ev_now _)), Int.le_refl _, fun _ j h hj => by omega⟩
    case s =>
      intro i h ih c h0 h1
      obtain ⟨r1, e1, hr1, hs1⟩ := szLabel l[i] c h0 h1 (hw _ (List.getElem_mem h))
      by_cases hr : r1 < 0
      · refine ⟨-1, ev_step (fun _ => laws_szLabelS.l0.eq_2 ..) ?_, by omega, fun h => absurd h (by decide)⟩
        repeat (first | (with_reducible refine ev_pos (by first | omega | rfl | decide) ?_) | (with_reducible refine ev_neg (by first | omega | decide) ?_))
        rw [(show rd_T84 l (i : Int) = l[i] from getD_lt h)]
        exact ev_bind e1 (ev_pos hr (ev_now _))
      · obtain ⟨r, e, hrc, hs⟩ := ih (r1) (by omega) (by omega)
        refine ⟨r, ev_step (fun _ => laws_szLabelS.l0.eq_2 ..) ?_, by omega, fun h2 j hj hij => ?_⟩
        · repeat (first | (with_reducible refine ev_pos (by first | omega | rfl | decide) ?_) | (with_reducible refine ev_neg (by first | omega | decide) ?_))
          rw [(show rd_T84 l (i : Int) = l[i] from getD_lt h)]
          refine ev_bind e1 (ev_neg hr ?_)
          rw [w64n h (by omega)]
          exact e
        · by_cases ej : j = i
          · subst ej
            exact hs1 (by omega)
          · exact hs h2 j hj (by omega)
    obtain ⟨r, e, hrc, hs⟩ := key
    refine ⟨r, ev_neg hn e, by omega, fun h => ⟨by omega, fun y hy => ?_⟩⟩
    obtain ⟨j, hj, rfl⟩ := List.getElem_of_mem hy
    exact hs h j hj (by omega)
theorem markLabelS (l : List (S86)) (hl : l.length ≤ 1048576) (c : Int) (h0 : 0 < c) (h1 : c ≤ 4611686018427387904) : ∃ y c', Ev (fun k => laws_markLabelS.f k l c) (c', y) ∧ Ev (fun k => laws_heldLabelS.f k y c) c' ∧ c ≤ c' ∧ c' ≤ c + 2 * l.length := by
  have key := up_ind l.length (fun i => ∀ (x : List (S86)) (c : Int), x.length = l.length → 0 < c → c + 2 * (l.length - i : Nat) ≤ 9000000000000000000 → ∃ y c', Ev (fun k => laws_markLabelS.l0 k x c (i : Int)) (c', y) ∧ Ev (fun k => laws_heldLabelS.l0 k y c (i : Int)) c' ∧ y.length = l.length ∧ (∀ j, j < i → y[j]? = x[j]?) ∧ c ≤ c' ∧ c' ≤ c + 2 * (l.length - i : Nat)) ?d ?s 0 (by omega) l c rfl h0 (by omega)
  case d =>
    intro x c hx h0 h1
    refine ⟨x, c, ev_step (fun _ => laws_markLabelS.l0.eq_2 ..) (ev_neg (by omega) (ev_now _)), ev_step (fun _ => laws_heldLabelS.l0.eq_2 ..) (ev_neg (by omega) (ev_now _)), hx, fun _ _ => rfl, by omega, by omega⟩
  case s =>
    intro i h ih x c hx h0 h1
    obtain ⟨s0, es0⟩ := markText (c) (by omega) (by omega)
    obtain ⟨s1, es1⟩ := markText (c + 1) (by omega) (by omega)
    have w1 : wrap64 (c + 1) = c + 1 := (w64 (by omega) (by omega)).trans (by omega)
    have w2 : wrap64 ((c + 1) + 1) = c + 2 := (w64 (by omega) (by omega)).trans (by omega)
    have wi : wrap64 ((i : Int) + 1) = ((i + 1 : Nat) : Int) := w64n h (by omega)
    have hset : ∀ a, rd_T86 (x.set i a) (i : Int) = a := fun a => by rw [show rd_T86 (x.set i a) (i : Int) = (x.set i a)[i]'(by simp; omega) from getD_lt (by simp; omega)]; simp
    obtain ⟨y, c', e1, e2, hy, hj, q1, q2⟩ := ih (x.set i ⟨s0, s1⟩) (c + 2) (by simp [hx]) (by omega) (by omega)
    refine ⟨y, c', ev_step (fun _ => laws_markLabelS.l0.eq_2 ..) ?_, ev_step (fun _ => laws_heldLabelS.l0.eq_2 ..) ?_, hy, fun j h' => ?_, by omega, by omega⟩
    · simp only [w1, w2, wi, Int.toNat_natCast]
      repeat (first | (with_reducible refine ev_pos (by first | omega | rfl | decide) ?_) | (with_reducible refine ev_some ?_) | (with_reducible refine ev_bind es0 ?_) | (with_reducible refine ev_bind es1 ?_))
      simp only [hset, List.set_set]
      exact e1
    · have ey : rd_T86 y (i : Int) = ⟨s0, s1⟩ := by
        have := hj i (by omega)
        rw [List.getElem?_set_self (by omega), List.getElem?_eq_getElem (by omega)] at this
        rw [show rd_T86 y (i : Int) = y[i]'(by omega) from getD_lt (by omega)]
        exact Option.some.inj this
      simp only [ey, w1, w2, wi]
      repeat (first | (with_reducible refine ev_pos (by first | omega | rfl | decide) ?_) | (with_reducible refine ev_bind es0 ?_) | (with_reducible refine ev_bind es1 ?_))
      exact e2
    · rw [hj j (by omega), List.getElem?_set_ne (by omega)]
  obtain ⟨y, c', e1, e2, _, _, q1, q2⟩ := key
  exact ⟨y, c', e1, e2, q1, by omega⟩

end Go.Proofs.Ythgeohdpjedhnaa.U
