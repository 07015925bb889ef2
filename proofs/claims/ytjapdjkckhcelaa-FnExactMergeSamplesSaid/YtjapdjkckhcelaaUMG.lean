/- Plain lemmas over the printed functions, for the laws' plain statements; each theorem states its own conditions. -/
import Derived.Test.YtjapdjkckhcelaaPrxg6b803n1
import Derived.Test.YtjapdjkckhcelaaPrxg6b803n3
import Derived.Test.YtjapdjkckhcelaaUB
namespace Go.Proofs.Ytjapdjkckhcelaa.U
open Go.RowKit Go.Proofs.Ytjapdjkckhcelaa.Pr Go.Proofs.YtjapdjkckhcelaaW.PrintWords Go.Proofs.YtjapdjkckhcelaaW.PrintLast Go.Proofs.YtjapdjkckhcelaaW.PrintMore
set_option linter.unusedVariables false
set_option linter.unusedSimpArgs false

/-- Two rising rows laid together; where both have one at a time, the first's counts. -/
def mg : Nat → List S37 → List S37 → List S37
  | 0, _, _ => []
  | _ + 1, [], [] => []
  | n + 1, [], b :: vs => b :: mg n [] vs
  | n + 1, a :: us, [] => a :: mg n us []
  | n + 1, a :: us, b :: vs => if a.f0 ≤ b.f0 then (if a.f0 = b.f0 then a :: mg n us vs else a :: mg n us (b :: vs)) else b :: mg n (a :: us) vs
theorem mg_len : ∀ n us vs, (mg n us vs).length ≤ n := by
  intro n
  induction n with
  | zero => intros; simp [mg]
  | succ n ih =>
    intro us vs
    match us, vs with
    | [], [] => simp [mg]
    | [], b :: vs => simp only [mg, List.length_cons]; have := ih [] vs; omega
    | a :: us, [] => simp only [mg, List.length_cons]; have := ih us []; omega
    | a :: us, b :: vs =>
      simp only [mg]
      split
      · split
        · simp only [List.length_cons]; have := ih us vs; omega
        · simp only [List.length_cons]; have := ih us (b :: vs); omega
      · simp only [List.length_cons]; have := ih (a :: us) vs; omega
theorem mg_impl (n : Nat) : ∀ (us vs acc : List S37), us.length + vs.length ≤ n → acc.length + n < 8796093022208 → Ev (fun k => impl_merge.l0 k us vs acc) (acc ++ mg n us vs) := by
  have r0 : ∀ (a : S37) us, rd_T37 (a :: us) 0 = a := fun _ _ => rfl
  have fin : ∀ acc : List S37, Ev (fun k => impl_merge.l0 k [] [] acc) acc := fun acc =>
    ev_step (fun _ => impl_merge.l0.eq_2 ..) (ev_neg (by simp <;> omega) (ev_step (fun _ => impl_merge.j1.eq_2 ..) (ev_neg (by simp <;> omega) (ev_now _))))
  induction n with
  | zero =>
    intro us vs acc h1 h2
    obtain rfl : us = [] := List.eq_nil_of_length_eq_zero (by omega)
    obtain rfl : vs = [] := List.eq_nil_of_length_eq_zero (by omega)
    simp only [mg, List.append_nil]
    exact fin acc
  | succ n ih =>
    intro us vs acc h1 h2
    match us, vs, h1 with
    | [], [], _ =>
      simp only [mg, List.append_nil]
      exact fin acc
    | [], b :: vs, h1 =>
      simp only [List.length_cons, List.length_nil] at h1
      have hi := ih [] vs (acc ++ [b]) (by simp only [List.length_nil]; omega) (by simp only [List.length_append, List.length_cons, List.length_nil]; omega)
      rw [List.append_assoc] at hi
      refine ev_step (fun _ => impl_merge.l0.eq_2 ..) (ev_neg (by simp <;> omega) (ev_step (fun _ => impl_merge.j1.eq_2 ..) (ev_pos (by simp <;> omega) (ev_neg (by simp; omega) (ev_neg (by simp <;> omega) (ev_step (fun _ => impl_merge.j2.eq_2 ..) (ev_neg (by simp <;> omega) (ev_pos (by simp <;> omega) (ev_pos (by omega) (ev_pos (by simp <;> omega) ?_))))))))))
      exact hi
    | a :: us, [], h1 =>
      simp only [List.length_cons, List.length_nil] at h1
      have hi := ih us [] (acc ++ [a]) (by simp only [List.length_nil]; omega) (by simp only [List.length_append, List.length_cons, List.length_nil]; omega)
      rw [List.append_assoc] at hi
      refine ev_step (fun _ => impl_merge.l0.eq_2 ..) (ev_pos (by simp <;> omega) (ev_step (fun _ => impl_merge.j1.eq_2 ..) (ev_pos rfl (ev_pos (by simp <;> omega) (ev_step (fun _ => impl_merge.j2.eq_2 ..) (ev_pos rfl (ev_neg (by simp <;> omega) (ev_pos (by simp <;> omega) (ev_pos (by omega) (ev_pos (by simp <;> omega) ?_))))))))))
      exact hi
    | a :: us, b :: vs, h1 =>
      simp only [List.length_cons] at h1
      refine ev_step (fun _ => impl_merge.l0.eq_2 ..) (ev_pos (by simp <;> omega) (ev_step (fun _ => impl_merge.j1.eq_2 ..) (ev_pos rfl (ev_neg (by simp; omega) (ev_pos (by simp <;> omega) (ev_pos (by simp <;> omega) (ev_pos (by simp <;> omega) (ev_step (fun _ => impl_merge.j2.eq_2 ..) ?_))))))))
      rw [r0, r0]
      simp only [mg]
      by_cases hle : a.f0 ≤ b.f0
      · rw [if_pos hle, decide_eq_true hle]
        refine ev_pos rfl (ev_pos (by simp <;> omega) (ev_pos (by simp <;> omega) (ev_pos (by simp <;> omega) ?_)))
        by_cases heq : a.f0 = b.f0
        · rw [if_pos heq]
          have hi := ih us vs (acc ++ [a]) (by omega) (by simp only [List.length_append, List.length_cons, List.length_nil]; omega)
          rw [List.append_assoc] at hi
          exact ev_pos heq (ev_pos (by simp <;> omega) (ev_pos (by omega) (ev_pos (by simp <;> omega) hi)))
        · rw [if_neg heq]
          have hi := ih us (b :: vs) (acc ++ [a]) (by simp only [List.length_cons]; omega) (by simp only [List.length_append, List.length_cons, List.length_nil]; omega)
          rw [List.append_assoc] at hi
          exact ev_neg heq (ev_pos (by omega) (ev_pos (by simp <;> omega) hi))
      · rw [if_neg hle, decide_eq_false hle]
        have hi := ih (a :: us) vs (acc ++ [b]) (by simp only [List.length_cons]; omega) (by simp only [List.length_append, List.length_cons, List.length_nil]; omega)
        rw [List.append_assoc] at hi
        exact ev_neg (by decide) (ev_pos (by simp <;> omega) (ev_pos (by omega) (ev_pos (by simp <;> omega) hi)))
theorem mg_spec (A C : List S37) (hA : A.length ≤ 1048576) (hC : C.length ≤ 1048576) (n : Nat) : ∀ (i j : Nat) (acc : List S37), i ≤ A.length → j ≤ C.length → A.length - i + (C.length - j) ≤ n → acc.length + n < 8796093022208 →
    Ev (fun k => spec_l6Merge.l0 k A C acc (i : Int) (j : Int)) (acc ++ mg n (A.drop i) (C.drop j)) := by
  have hrd : ∀ (l : List S37) (i : Nat) (h : i < l.length), rd_T37 l (i : Int) = l[i] := fun l i h => getD_lt h
  have fin : ∀ acc : List S37, Ev (fun k => spec_l6Merge.l0 k A C acc (A.length : Int) (C.length : Int)) acc := fun acc =>
    ev_step (fun _ => spec_l6Merge.l0.eq_2 ..) (ev_neg (by omega) (ev_step (fun _ => spec_l6Merge.j1.eq_2 ..) (ev_neg (by simp <;> omega) (ev_now _))))
  induction n with
  | zero =>
    intro i j acc hi hj h1 h2
    obtain rfl : i = A.length := by omega
    obtain rfl : j = C.length := by omega
    simp only [mg, List.append_nil]
    exact fin acc
  | succ n ih =>
    intro i j acc hi hj h1 h2
    rcases Nat.lt_or_ge i A.length with ha | ha
    · have wi : wrap64 ((i : Int) + 1) = ((i + 1 : Nat) : Int) := w64n ha (by omega)
      rcases Nat.lt_or_ge j C.length with hb | hb
      · have wj : wrap64 ((j : Int) + 1) = ((j + 1 : Nat) : Int) := w64n hb (by omega)
        rw [List.drop_eq_getElem_cons ha, List.drop_eq_getElem_cons hb]
        refine ev_step (fun _ => spec_l6Merge.l0.eq_2 ..) (ev_pos (by omega) (ev_step (fun _ => spec_l6Merge.j1.eq_2 ..) (ev_pos rfl (ev_neg (by omega) (ev_pos (by omega) (ev_pos (by omega) (ev_pos (by omega) (ev_pos (by omega) (ev_step (fun _ => spec_l6Merge.j2.eq_2 ..) ?_)))))))))
        rw [hrd A i ha, hrd C j hb, wi, wj]
        simp only [mg]
        by_cases hle : A[i].f0 ≤ C[j].f0
        · rw [if_pos hle, decide_eq_true hle]
          refine ev_pos rfl (ev_pos (by omega) (ev_pos (by omega) (ev_pos (by omega) (ev_pos (by omega) ?_))))
          by_cases heq : A[i].f0 = C[j].f0
          · rw [if_pos heq]
            have hi := ih (i + 1) (j + 1) (acc ++ [A[i]]) (by omega) (by omega) (by omega) (by simp only [List.length_append, List.length_cons, List.length_nil]; omega)
            rw [List.append_assoc] at hi
            exact ev_pos heq (ev_pos (by omega) hi)
          · rw [if_neg heq]
            have hi := ih (i + 1) j (acc ++ [A[i]]) (by omega) (by omega) (by omega) (by simp only [List.length_append, List.length_cons, List.length_nil]; omega)
            rw [List.append_assoc, List.drop_eq_getElem_cons hb] at hi
            exact ev_neg heq (ev_pos (by omega) hi)
        · rw [if_neg hle, decide_eq_false hle]
          have hi := ih i (j + 1) (acc ++ [C[j]]) (by omega) (by omega) (by omega) (by simp only [List.length_append, List.length_cons, List.length_nil]; omega)
          rw [List.append_assoc, List.drop_eq_getElem_cons ha] at hi
          exact ev_neg (by decide) (ev_pos (by omega) (ev_pos (by omega) (ev_pos (by omega) hi)))
      · obtain rfl : j = C.length := by omega
        rw [List.drop_eq_getElem_cons ha, List.drop_length]
        simp only [mg]
        have hi := ih (i + 1) C.length (acc ++ [A[i]]) (by omega) (by omega) (by omega) (by simp only [List.length_append, List.length_cons, List.length_nil]; omega)
        rw [List.append_assoc, List.drop_length] at hi
        refine ev_step (fun _ => spec_l6Merge.l0.eq_2 ..) (ev_pos (by omega) (ev_step (fun _ => spec_l6Merge.j1.eq_2 ..) (ev_pos rfl (ev_pos rfl (ev_step (fun _ => spec_l6Merge.j2.eq_2 ..) ?_)))))
        rw [hrd A i ha, wi]
        exact ev_pos rfl (ev_neg (by omega) (ev_pos (by omega) (ev_pos (by omega) (ev_pos (by omega) hi))))
    · obtain rfl : i = A.length := by omega
      rcases Nat.lt_or_ge j C.length with hb | hb
      · have wj : wrap64 ((j : Int) + 1) = ((j + 1 : Nat) : Int) := w64n hb (by omega)
        rw [List.drop_length, List.drop_eq_getElem_cons hb]
        simp only [mg]
        have hi := ih A.length (j + 1) (acc ++ [C[j]]) (by omega) (by omega) (by omega) (by simp only [List.length_append, List.length_cons, List.length_nil]; omega)
        rw [List.append_assoc, List.drop_length] at hi
        refine ev_step (fun _ => spec_l6Merge.l0.eq_2 ..) (ev_neg (by omega) ?_)
        rw [decide_eq_true (by omega)]
        refine ev_step (fun _ => spec_l6Merge.j1.eq_2 ..) (ev_pos rfl (ev_neg (by omega) (ev_neg (by omega) (ev_step (fun _ => spec_l6Merge.j2.eq_2 ..) ?_))))
        rw [hrd C j hb, wj]
        exact ev_neg (by decide) (ev_pos (by omega) (ev_pos (by omega) (ev_pos (by omega) hi)))
      · obtain rfl : j = C.length := by omega
        rw [List.drop_length, List.drop_length]
        simp only [mg, List.append_nil]
        exact fin acc

end Go.Proofs.Ytjapdjkckhcelaa.U
