/- Plain lemmas over the printed functions, for the laws' plain statements; each theorem states its own conditions. -/
import Derived.Test.YtjapdjkckhcelaaPrxg12584n1
import Derived.Test.YtjapdjkckhcelaaPrxg12584n3
import Derived.Test.YtjapdjkckhcelaaPrxg1cf53n1
import Derived.Test.YtjapdjkckhcelaaUB
namespace Go.Proofs.Ytjapdjkckhcelaa.U
open Go.RowKit Go.Proofs.Ytjapdjkckhcelaa.Pr Go.Proofs.YtjapdjkckhcelaaW.PrintWords Go.Proofs.YtjapdjkckhcelaaW.PrintLast Go.Proofs.YtjapdjkckhcelaaW.PrintMore
set_option linter.unusedVariables false
set_option linter.unusedSimpArgs false

/-- Times that rise, from lo on, each one in its range. -/
def incS (lo : Int) : List S37 → Bool
  | [] => true
  | x :: xs => decide (0 ≤ x.f0) && decide (x.f0 ≤ 1000000000000) && decide (lo < x.f0) && incS x.f0 xs
def goodS (l : List S37) : Bool := decide (l.length ≤ 2000) && incS (-1) l
def ptS (l : List S37) (i : Nat) : Int := if i = 0 then -1 else (rd_T37 l ((i - 1 : Nat) : Int)).f0
theorem isTime_yes {x : Int} (h : 0 ≤ x ∧ x ≤ 1000000000000) : impl_isTime.f x = some true ∧ spec_l3Time.f x = some true := by
  unfold impl_isTime.f spec_l3Time.f
  rw [if_pos h.1, decide_eq_true h.2]
  exact ⟨rfl, rfl⟩
theorem isTime_no {x : Int} (h : ¬ (0 ≤ x ∧ x ≤ 1000000000000)) : impl_isTime.f x = some false ∧ spec_l3Time.f x = some false := by
  unfold impl_isTime.f spec_l3Time.f
  by_cases h0 : x ≥ 0
  · rw [if_pos h0, decide_eq_false (by omega)]
    exact ⟨rfl, rfl⟩
  · rw [if_neg h0]
    exact ⟨rfl, rfl⟩
theorem gs_impl (l : List S37) (hl : l.length ≤ 9223372036854775807) : ∀ i, i ≤ l.length → Ev (fun k => impl_GoodSamples.l0 k l l (l.length : Int) (i : Int)) ((incS (ptS l i) (l.drop i))) := by
  have hrd : ∀ (i : Nat) (h : i < l.length), rd_T37 l (i : Int) = l[i] := fun i h => getD_lt h
  refine up_ind l.length (fun i => Ev (fun k => impl_GoodSamples.l0 k l l (l.length : Int) (i : Int)) ((incS (ptS l i) (l.drop i)))) ?_ ?_
  · rw [List.drop_length]
    refine ev_step (fun _ => impl_GoodSamples.l0.eq_2 ..) (ev_neg (by omega) ?_)
    exact ev_now _
  · intro i h ih
    have hp : ptS l (i + 1) = l[i].f0 := by unfold ptS; rw [if_neg (by omega), Nat.add_sub_cancel, hrd i h]
    rw [hp] at ih
    have wi : wrap64 ((i : Int) + 1) = ((i + 1 : Nat) : Int) := w64n h hl
    refine ev_step (fun _ => impl_GoodSamples.l0.eq_2 ..) (ev_pos (by omega) (ev_pos (by omega) (ev_pos (by omega) ?_)))
    rw [hrd i h, List.drop_eq_getElem_cons h]
    by_cases ht : 0 ≤ l[i].f0 ∧ l[i].f0 ≤ 1000000000000
    · refine ev_bind (ev_eq (isTime_yes ht).1) (ev_pos rfl ?_)
      by_cases hi : i = 0
      · subst hi
        have e : incS (ptS l 0) (l[0] :: l.drop (0 + 1)) = incS l[0].f0 (l.drop (0 + 1)) := by simp [incS, ptS, ht]; omega
        rw [e, wi]
        exact ev_neg (by omega) ih
      · have wm : wrap64 ((i : Int) - 1) = ((i - 1 : Nat) : Int) := by rw [w64 (by omega) (by omega)]; omega
        rw [wm, hrd (i - 1) (by omega)]
        refine ev_pos (by omega) (ev_pos (by omega) (ev_pos (by omega) ?_))
        have hq : ptS l i = l[i - 1].f0 := by unfold ptS; rw [if_neg hi, hrd (i - 1) (by omega)]
        rw [hq]
        by_cases hc : l[i - 1].f0 ≥ l[i].f0
        · have e : incS l[i - 1].f0 (l[i] :: l.drop (i + 1)) = false := by simp [incS]; omega
          rw [e]
          refine ev_pos hc ?_
          exact ev_now _
        · have e : incS l[i - 1].f0 (l[i] :: l.drop (i + 1)) = incS l[i].f0 (l.drop (i + 1)) := by simp [incS, ht]; omega
          rw [e, wi]
          exact ev_neg hc ih
    · have e : incS (ptS l i) (l[i] :: l.drop (i + 1)) = false := by simp [incS]; omega
      rw [e]
      refine ev_bind (ev_eq (isTime_no ht).1) (ev_neg (by decide) ?_)
      exact ev_now _
theorem gs_spec (l : List S37) (hl : l.length ≤ 9223372036854775807) : ∀ i, i ≤ l.length → Ev (fun k => spec_GoodSamples.l0 k l l (l.length : Int) (i : Int)) (decide (l.length ≤ 2000) && (incS (ptS l i) (l.drop i))) := by
  have hrd : ∀ (i : Nat) (h : i < l.length), rd_T37 l (i : Int) = l[i] := fun i h => getD_lt h
  refine up_ind l.length (fun i => Ev (fun k => spec_GoodSamples.l0 k l l (l.length : Int) (i : Int)) (decide (l.length ≤ 2000) && (incS (ptS l i) (l.drop i)))) ?_ ?_
  · rw [List.drop_length]
    refine ev_step (fun _ => spec_GoodSamples.l0.eq_2 ..) (ev_neg (by omega) ?_)
    rw [show decide ((l.length : Int) ≤ 2000) = (decide (l.length ≤ 2000) && incS (ptS l l.length) []) from by simp [incS]; omega]
    exact ev_now _
  · intro i h ih
    have hp : ptS l (i + 1) = l[i].f0 := by unfold ptS; rw [if_neg (by omega), Nat.add_sub_cancel, hrd i h]
    rw [hp] at ih
    have wi : wrap64 ((i : Int) + 1) = ((i + 1 : Nat) : Int) := w64n h hl
    refine ev_step (fun _ => spec_GoodSamples.l0.eq_2 ..) (ev_pos (by omega) (ev_pos (by omega) (ev_pos (by omega) ?_)))
    rw [hrd i h, List.drop_eq_getElem_cons h]
    by_cases ht : 0 ≤ l[i].f0 ∧ l[i].f0 ≤ 1000000000000
    · refine ev_bind (ev_eq (isTime_yes ht).2) (ev_pos rfl ?_)
      by_cases hi : i = 0
      · subst hi
        have e : incS (ptS l 0) (l[0] :: l.drop (0 + 1)) = incS l[0].f0 (l.drop (0 + 1)) := by simp [incS, ptS, ht]; omega
        rw [e, wi]
        exact ev_neg (by omega) ih
      · have wm : wrap64 ((i : Int) - 1) = ((i - 1 : Nat) : Int) := by rw [w64 (by omega) (by omega)]; omega
        rw [wm, hrd (i - 1) (by omega)]
        refine ev_pos (by omega) (ev_pos (by omega) (ev_pos (by omega) ?_))
        have hq : ptS l i = l[i - 1].f0 := by unfold ptS; rw [if_neg hi, hrd (i - 1) (by omega)]
        rw [hq]
        by_cases hc : l[i - 1].f0 ≥ l[i].f0
        · have e : incS l[i - 1].f0 (l[i] :: l.drop (i + 1)) = false := by simp [incS]; omega
          rw [e]
          refine ev_pos hc ?_
          rw [Bool.and_false]
          exact ev_now _
        · have e : incS l[i - 1].f0 (l[i] :: l.drop (i + 1)) = incS l[i].f0 (l.drop (i + 1)) := by simp [incS, ht]; omega
          rw [e, wi]
          exact ev_neg hc ih
    · have e : incS (ptS l i) (l[i] :: l.drop (i + 1)) = false := by simp [incS]; omega
      rw [e]
      refine ev_bind (ev_eq (isTime_no ht).2) (ev_neg (by decide) ?_)
      rw [Bool.and_false]
      exact ev_now _
theorem goodSamples_impl (l : List S37) (hl : l.length ≤ 9223372036854775807) : Ev (fun k => impl_GoodSamples.f k l) (goodS l) := by
  unfold impl_GoodSamples.f goodS
  by_cases h : l.length ≤ 2000
  · rw [decide_eq_true h, Bool.true_and]
    exact ev_neg (by omega) (gs_impl l hl 0 (by omega))
  · rw [decide_eq_false h, Bool.false_and]
    exact ev_pos (by omega) (ev_now _)
theorem goodSamples_spec (l : List S37) (hl : l.length ≤ 9223372036854775807) : Ev (fun k => spec_GoodSamples.f k l) (goodS l) := by
  unfold spec_GoodSamples.f
  exact gs_spec l hl 0 (by omega)

end Go.Proofs.Ytjapdjkckhcelaa.U
