/- Plain lemmas over the printed functions, for the laws' plain statements; each theorem states its own conditions. -/
import Derived.Test.YthgeohdpjedhnaaPrxg5570bn2
import Derived.Test.YthgeohdpjedhnaaPrxg5570bn4
import Derived.Test.YthgeohdpjedhnaaUB
import Derived.Test.YthgeohdpjedhnaaUSTR
import Derived.Test.YthgeohdpjedhnaaUNAMES
import Derived.Test.YthgeohdpjedhnaaUCMP
namespace Go.Proofs.Ythgeohdpjedhnaa.U
open Go.RowKit Go.Proofs.Ythgeohdpjedhnaa.Pr Go.Proofs.YthgeohdpjedhnaaW.PrintWords Go.Proofs.YthgeohdpjedhnaaW.PrintLast Go.Proofs.YthgeohdpjedhnaaW.PrintMore
set_option linter.unusedVariables false
set_option linter.unusedSimpArgs false

def before (p : Option (List UInt8)) (l : List UInt8) : Bool := match p with
  | none => true
  | some q => decide (cmpL q l < 0)
/-- Labels that are good, each name behind the one ahead. -/
def riseL (p : Option (List UInt8)) : List S86 → Bool
  | [] => true
  | x :: xs => nameL (Y x.f0) && valL (Y x.f1) && before p (Y x.f0) && riseL (some (Y x.f0)) xs
def goodL (l : List S86) : Bool := decide (l.length ≤ 20) && riseL none l
def ptL (l : List S86) (i : Nat) : Option (List UInt8) := if i = 0 then none else some (Y (rd_T86 l ((i - 1 : Nat) : Int)).f0)
/-- Texts that fit. -/
def fitL (l : List S86) : Prop := l.length ≤ 9223372036854775807 ∧ ∀ x ∈ l, x.f0.size ≤ 9223372036854775807 ∧ x.f1.size ≤ 9223372036854775807
theorem goodLabels_impl_l (l : List S86) (hf : fitL l) : Ev (fun k => impl_GoodLabels.l0 k l l (l.length : Int) 0) (riseL none l) := by
  obtain ⟨hl, hw⟩ := hf
  have hrd : ∀ (i : Nat) (h : i < l.length), rd_T86 l (i : Int) = l[i] := fun i h => getD_lt h
  refine up_ind l.length (fun i => Ev (fun k => impl_GoodLabels.l0 k l l (l.length : Int) (i : Int)) (riseL (ptL l i) (l.drop i))) ?_ ?_ 0 (by omega)
  · rw [List.drop_length]
    exact ev_step (fun _ => impl_GoodLabels.l0.eq_2 ..) (ev_neg (by omega) (ev_now _))
  · intro i h ih
    have hp : ptL l (i + 1) = some (Y l[i].f0) := by unfold ptL; rw [if_neg (by omega), Nat.add_sub_cancel, hrd i h]
    rw [hp] at ih
    obtain ⟨w1, w2⟩ := hw l[i] (List.getElem_mem h)
    have wi : wrap64 ((i : Int) + 1) = ((i + 1 : Nat) : Int) := w64n h hl
    refine ev_step (fun _ => impl_GoodLabels.l0.eq_2 ..) (ev_pos (by omega) (ev_pos (by omega) (ev_pos (by omega) ?_)))
    rw [hrd i h, List.drop_eq_getElem_cons h]
    simp only [riseL]
    refine ev_bind (name_impl _ w1) (ev_ite (fun h1 => ev_bind (value_impl _ w2) (ev_ite (fun h2 => ?_) (fun h2 => ?_))) (fun h1 => ?_))
    · rw [h1, h2, Bool.true_and, Bool.true_and]
      by_cases hi : i = 0
      · subst hi
        rw [wi]
        exact ev_neg (by omega) ih
      · have wm : wrap64 ((i : Int) - 1) = ((i - 1 : Nat) : Int) := by rw [w64 (by omega) (by omega)]; omega
        have hq : ptL l i = some (Y l[i - 1].f0) := by unfold ptL; rw [if_neg hi, hrd (i - 1) (by omega)]
        obtain ⟨w3, _⟩ := hw l[i - 1] (List.getElem_mem (by omega))
        rw [wm, hrd (i - 1) (by omega), hq, wi]
        refine ev_pos (by omega) (ev_pos (by omega) (ev_pos (by omega) ?_))
        simp only [before]
        rw [Y_eq, Y_eq, less_cmp]
        refine ev_ite (fun h3 => ?_) (fun h3 => ?_)
        · rw [h3, Bool.true_and]
          exact ih
        · rw [Bool.eq_false_iff.2 h3, Bool.false_and]
          exact ev_now _
    · rw [h1, Bool.eq_false_iff.2 h2]
      exact ev_now _
    · rw [Bool.eq_false_iff.2 h1]
      exact ev_now _
theorem goodLabels_impl (l : List S86) (hf : fitL l) : Ev (fun k => impl_GoodLabels.f k l) (goodL l) := by
  unfold impl_GoodLabels.f goodL
  refine ev_ite (fun h => ?_) (fun h => ?_)
  · rw [decide_eq_false (by omega)]
    exact ev_now _
  · rw [decide_eq_true (by omega), Bool.true_and]
    exact goodLabels_impl_l l hf
theorem goodLabels_spec_l (l : List S86) (hf : fitL l) : Ev (fun k => spec_GoodLabels.l0 k l l (l.length : Int) 0) (riseL none l) := by
  obtain ⟨hl, hw⟩ := hf
  have hrd : ∀ (i : Nat) (h : i < l.length), rd_T86 l (i : Int) = l[i] := fun i h => getD_lt h
  refine up_ind l.length (fun i => Ev (fun k => spec_GoodLabels.l0 k l l (l.length : Int) (i : Int)) (riseL (ptL l i) (l.drop i))) ?_ ?_ 0 (by omega)
  · rw [List.drop_length]
    exact ev_step (fun _ => spec_GoodLabels.l0.eq_2 ..) (ev_neg (by omega) (ev_now _))
  · intro i h ih
    have hp : ptL l (i + 1) = some (Y l[i].f0) := by unfold ptL; rw [if_neg (by omega), Nat.add_sub_cancel, hrd i h]
    rw [hp] at ih
    obtain ⟨w1, w2⟩ := hw l[i] (List.getElem_mem h)
    have wi : wrap64 ((i : Int) + 1) = ((i + 1 : Nat) : Int) := w64n h hl
    refine ev_step (fun _ => spec_GoodLabels.l0.eq_2 ..) (ev_pos (by omega) (ev_pos (by omega) (ev_pos (by omega) ?_)))
    rw [hrd i h, List.drop_eq_getElem_cons h]
    simp only [riseL]
    refine ev_bind (name_spec _ w1) (ev_ite (fun h1 => ev_bind (value_spec _ w2) (ev_ite (fun h2 => ?_) (fun h2 => ?_))) (fun h1 => ?_))
    · rw [h1, h2, Bool.true_and, Bool.true_and]
      by_cases hi : i = 0
      · subst hi
        rw [wi]
        exact ev_neg (by omega) ih
      · have wm : wrap64 ((i : Int) - 1) = ((i - 1 : Nat) : Int) := by rw [w64 (by omega) (by omega)]; omega
        have hq : ptL l i = some (Y l[i - 1].f0) := by unfold ptL; rw [if_neg hi, hrd (i - 1) (by omega)]
        obtain ⟨w3, _⟩ := hw l[i - 1] (List.getElem_mem (by omega))
        rw [wm, hrd (i - 1) (by omega), hq, wi]
        refine ev_pos (by omega) (ev_pos (by omega) (ev_pos (by omega) ?_))
        simp only [before]
        refine ev_bind (cmp_spec _ _ w3 w1) (ev_ite (fun h3 => ?_) (fun h3 => ?_))
        · rw [decide_eq_false (by omega), Bool.false_and]
          exact ev_now _
        · rw [decide_eq_true (by omega), Bool.true_and]
          exact ih
    · rw [h1, Bool.eq_false_iff.2 h2]
      exact ev_now _
    · rw [Bool.eq_false_iff.2 h1]
      exact ev_now _
theorem goodLabels_spec (l : List S86) (hf : fitL l) : Ev (fun k => spec_GoodLabels.f k l) (goodL l) := by
  unfold spec_GoodLabels.f goodL
  refine ev_ite (fun h => ?_) (fun h => ?_)
  · rw [decide_eq_false (by omega)]
    exact ev_now _
  · rw [decide_eq_true (by omega), Bool.true_and]
    exact goodLabels_spec_l l hf

end Go.Proofs.Ythgeohdpjedhnaa.U
