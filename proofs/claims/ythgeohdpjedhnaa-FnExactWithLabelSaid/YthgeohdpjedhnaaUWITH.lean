/- Plain lemmas over the printed functions, for the laws' plain statements; each theorem states its own conditions. -/
import Derived.Test.YthgeohdpjedhnaaPrxgc6e1bn1
import Derived.Test.YthgeohdpjedhnaaPrxgc6e1bn2
import Derived.Test.YthgeohdpjedhnaaUB
import Derived.Test.YthgeohdpjedhnaaUSTR
import Derived.Test.YthgeohdpjedhnaaUNAMES
import Derived.Test.YthgeohdpjedhnaaUCMP
import Derived.Test.YthgeohdpjedhnaaULABELS
import Derived.Test.YthgeohdpjedhnaaUCMPL
namespace Go.Proofs.Ythgeohdpjedhnaa.U
open Go.RowKit Go.Proofs.Ythgeohdpjedhnaa.Pr Go.Proofs.YthgeohdpjedhnaaW.PrintWords Go.Proofs.YthgeohdpjedhnaaW.PrintLast Go.Proofs.YthgeohdpjedhnaaW.PrintMore
set_option linter.unusedVariables false
set_option linter.unusedSimpArgs false

/-- The labels with the pair (n, v) set in order, an elder one of that name left out; p: it is placed already, or is not to be. -/
def withL (n v : ByteArray) : List S86 → Bool → List S86 → List S86
  | acc, p, [] => if p = true then acc else acc ++ [⟨n, v⟩]
  | acc, p, x :: xs =>
    if (!p && !(Op.bytesLess x.f0.toList n.toList)) = true then (if x.f0.toList = n.toList then withL n v (acc ++ [⟨n, v⟩]) true xs else withL n v (acc ++ [⟨n, v⟩] ++ [x]) true xs)
    else (if x.f0.toList = n.toList then withL n v acc p xs else withL n v (acc ++ [x]) p xs)
theorem withL_len (n v : ByteArray) : ∀ (l acc : List S86) (p : Bool), (withL n v acc p l).length ≤ acc.length + 2 * l.length + 1 := by
  intro l
  induction l with
  | nil => intro acc p; simp only [withL]; split <;> simp
  | cons x xs ih =>
    intro acc p
    simp only [withL]
    split
    · split
      · have := ih (acc ++ [⟨n, v⟩]) true; simp only [List.length_append, List.length_cons, List.length_nil] at this ⊢; omega
      · have := ih (acc ++ [⟨n, v⟩] ++ [x]) true; simp only [List.length_append, List.length_cons, List.length_nil] at this ⊢; omega
    · split
      · have := ih acc p; simp only [List.length_cons]; omega
      · have := ih (acc ++ [x]) p; simp only [List.length_append, List.length_cons, List.length_nil] at this ⊢; omega
theorem withL_mem (n v : ByteArray) (q : S86 → Prop) (hn : q ⟨n, v⟩) : ∀ (l acc : List S86) (p : Bool), (∀ x ∈ acc, q x) → (∀ x ∈ l, q x) → ∀ x ∈ withL n v acc p l, q x := by
  have ap : ∀ (acc : List S86) (y : S86), (∀ x ∈ acc, q x) → q y → ∀ x ∈ acc ++ [y], q x := by
    intro acc y h1 h2 x hx
    rcases List.mem_append.1 hx with h | h
    · exact h1 x h
    · rw [List.mem_singleton.1 h]; exact h2
  intro l
  induction l with
  | nil =>
    intro acc p h1 _
    simp only [withL]
    split
    · exact h1
    · exact ap _ _ h1 hn
  | cons y ys ih =>
    intro acc p h1 h2
    have hy := h2 y (List.mem_cons_self ..)
    have h3 : ∀ x ∈ ys, q x := fun x hx => h2 x (List.mem_cons_of_mem _ hx)
    simp only [withL]
    split
    · split
      · exact ih _ _ (ap _ _ h1 hn) h3
      · exact ih _ _ (ap _ _ (ap _ _ h1 hn) hy) h3
    · split
      · exact ih _ _ h1 h3
      · exact ih _ _ (ap _ _ h1 hy) h3
theorem ev_ite2 {α : Type} {c : Prop} [d1 : Decidable c] [d2 : Decidable c] {f g : Nat → Option α} {a b : α} (h1 : c → Ev f a) (h2 : ¬ c → Ev g b) : Ev (fun k => if c then f k else g k) (if c then a else b) := by
  by_cases h : c
  · rw [if_pos h]; exact ev_pos h (h1 h)
  · rw [if_neg h]; exact ev_neg h (h2 h)
theorem with_impl (l : List S86) (hl : l.length ≤ 1048576) (n v : ByteArray) (p : Bool) : Ev (fun k => impl_with.l0 k n v [] p l (l.length : Int) 0) (withL n v [] p l) := by
  have hrd : ∀ (i : Nat) (h : i < l.length), rd_T86 l (i : Int) = l[i] := fun i h => getD_lt h
  refine up_ind l.length (fun i => ∀ (acc : List S86) (p : Bool), acc.length + 2 * (l.length - i) ≤ 4000000 → Ev (fun k => impl_with.l0 k n v acc p l (l.length : Int) (i : Int)) (withL n v acc p (l.drop i))) ?_ ?_ 0 (by omega) [] p (by simp; omega)
  · intro acc p hb
    rw [List.drop_length]
    refine ev_step (fun _ => impl_with.l0.eq_2 ..) (ev_neg (by omega) ?_)
    simp only [withL]
    exact ev_ite2 (fun _ => ev_now _) (fun _ => ev_pos (by omega) (ev_now _))
  · intro i h ih acc p hb
    have wi : wrap64 ((i : Int) + 1) = ((i + 1 : Nat) : Int) := w64n h (by omega)
    refine ev_step (fun _ => impl_with.l0.eq_2 ..) (ev_pos (by omega) (ev_pos (by omega) (ev_pos (by omega) ?_)))
    rw [hrd i h, List.drop_eq_getElem_cons h]
    simp only [withL]
    cases p with
    | true =>
      refine ev_pos rfl (ev_step (fun _ => impl_with.j1.eq_2 ..) (ev_neg (by decide) ?_))
      rw [if_neg (by simp), wi]
      exact ev_ite2 (fun _ => ih acc true (by omega)) (fun _ => ev_pos (by omega) (ih _ true (by simp only [List.length_append, List.length_cons, List.length_nil]; omega)))
    | false =>
      refine ev_neg (by decide) (ev_step (fun _ => impl_with.j1.eq_2 ..) ?_)
      rw [Bool.not_false, Bool.true_and, wi]
      refine ev_ite2 (fun _ => ?_) (fun _ => ?_)
      · refine ev_pos (by omega) (ev_bind (ev_now _) ?_)
        exact ev_ite2 (fun _ => ih _ true (by simp only [List.length_append, List.length_cons, List.length_nil]; omega)) (fun _ => ev_pos (by simp only [List.length_append, List.length_cons, List.length_nil]; omega) (ih _ true (by simp only [List.length_append, List.length_cons, List.length_nil]; omega)))
      · exact ev_ite2 (fun _ => ih acc false (by omega)) (fun _ => ev_pos (by omega) (ih _ false (by simp only [List.length_append, List.length_cons, List.length_nil]; omega)))
theorem notless_cmp (a b : ByteArray) : decide (cmpL (Y a) (Y b) ≤ 0) = !(Op.bytesLess b.toList a.toList) := by
  rw [Y_eq, Y_eq, less_cmp, cmpL_neg (Y a) (Y b)]
  by_cases h : cmpL (Y a) (Y b) ≤ 0
  · rw [decide_eq_true h, decide_eq_false (by omega)]; rfl
  · rw [decide_eq_false h, decide_eq_true (by omega)]; rfl
theorem with_spec (l : List S86) (hf : fitL l) (hl : l.length ≤ 1048576) (n v : ByteArray) (hn : n.size ≤ 9223372036854775807) (p : Bool) : Ev (fun k => spec_l2With.l0 k n v [] p l (l.length : Int) 0) (withL n v [] p l) := by
  have hrd : ∀ (i : Nat) (h : i < l.length), rd_T86 l (i : Int) = l[i] := fun i h => getD_lt h
  refine up_ind l.length (fun i => ∀ (acc : List S86) (p : Bool), acc.length + 2 * (l.length - i) ≤ 4000000 → Ev (fun k => spec_l2With.l0 k n v acc p l (l.length : Int) (i : Int)) (withL n v acc p (l.drop i))) ?_ ?_ 0 (by omega) [] p (by simp; omega)
  · intro acc p hb
    rw [List.drop_length]
    refine ev_step (fun _ => spec_l2With.l0.eq_2 ..) (ev_neg (by omega) ?_)
    simp only [withL]
    exact ev_ite2 (fun _ => ev_now _) (fun _ => ev_pos (by omega) (ev_now _))
  · intro i h ih acc p hb
    have wi : wrap64 ((i : Int) + 1) = ((i + 1 : Nat) : Int) := w64n h (by omega)
    refine ev_step (fun _ => spec_l2With.l0.eq_2 ..) (ev_pos (by omega) (ev_pos (by omega) (ev_pos (by omega) ?_)))
    rw [hrd i h, List.drop_eq_getElem_cons h]
    simp only [withL]
    cases p with
    | true =>
      refine ev_pos rfl (ev_step (fun _ => spec_l2With.j1.eq_2 ..) (ev_neg (by decide) ?_))
      rw [if_neg (by simp), wi]
      exact ev_ite2 (fun _ => ih acc true (by omega)) (fun _ => ev_pos (by omega) (ih _ true (by simp only [List.length_append, List.length_cons, List.length_nil]; omega)))
    | false =>
      refine ev_neg (by decide) (ev_bind (cmp_spec _ _ hn (hf.2 l[i] (List.getElem_mem h)).1) (ev_step (fun _ => spec_l2With.j1.eq_2 ..) ?_))
      rw [notless_cmp, Bool.not_false, Bool.true_and, wi]
      refine ev_ite2 (fun _ => ?_) (fun _ => ?_)
      · refine ev_pos (by omega) (ev_bind (ev_now _) ?_)
        exact ev_ite2 (fun _ => ih _ true (by simp only [List.length_append, List.length_cons, List.length_nil]; omega)) (fun _ => ev_pos (by simp only [List.length_append, List.length_cons, List.length_nil]; omega) (ih _ true (by simp only [List.length_append, List.length_cons, List.length_nil]; omega)))
      · exact ev_ite2 (fun _ => ih acc false (by omega)) (fun _ => ev_pos (by omega) (ih _ false (by simp only [List.length_append, List.length_cons, List.length_nil]; omega)))
theorem with_two (l : List S86) (hf : fitL l) (hl : l.length ≤ 1048576) (n v : ByteArray) (hn : n.size ≤ 9223372036854775807) (hv : v.size ≤ 9223372036854775807) :
    ∃ r : List S86, r.length ≤ 1048576 ∧ Ev (fun k => impl_WithLabel.f k l n v) r ∧ Ev (fun k => spec_WithLabel.f k l n v) r := by
  have key : ∃ r : List S86, r.length ≤ 1048576 ∧ Ev (fun k => impl_WithLabel.j0 k l n v false) r ∧ Ev (fun k => spec_WithLabel.j0 k l n v false) r := by
    have e1 : Ev (fun k => impl_with.f k l n v) _ := with_impl l hl n v (v.toList == [])
    have e2 : Ev (fun k => spec_l2With.f k l n v) _ := with_spec l hf hl n v hn (v.toList == [])
    have fB : fitL (withL n v [] (v.toList == []) l) := ⟨by have := withL_len n v l [] (v.toList == []); simp only [List.length_nil] at this; omega, withL_mem n v _ ⟨hn, hv⟩ l [] _ (fun _ h => absurd h List.not_mem_nil) hf.2⟩
    by_cases g : goodL (withL n v [] (v.toList == []) l) = true
    · have g2 : (withL n v [] (v.toList == []) l).length ≤ 20 := of_decide_eq_true (by unfold goodL at g; exact (Bool.and_eq_true_iff.1 g).1)
      exact ⟨_, by omega, ev_step (fun _ => impl_WithLabel.j0.eq_2 ..) (ev_neg (by decide) (ev_bind e1 (ev_bind (goodLabels_impl _ fB) (ev_pos g (ev_now _))))), ev_step (fun _ => spec_WithLabel.j0.eq_2 ..) (ev_neg (by decide) (ev_bind e2 (ev_bind (goodLabels_spec _ fB) (ev_pos g (ev_now _)))))⟩
    · exact ⟨[], by simp, ev_step (fun _ => impl_WithLabel.j0.eq_2 ..) (ev_neg (by decide) (ev_bind e1 (ev_bind (goodLabels_impl _ fB) (ev_neg g (ev_now _))))), ev_step (fun _ => spec_WithLabel.j0.eq_2 ..) (ev_neg (by decide) (ev_bind e2 (ev_bind (goodLabels_spec _ fB) (ev_neg g (ev_now _)))))⟩
  have no1 : Ev (fun k => impl_WithLabel.j0 k l n v true) [] := ev_step (fun _ => impl_WithLabel.j0.eq_2 ..) (ev_pos rfl (ev_now _))
  have no2 : Ev (fun k => spec_WithLabel.j0 k l n v true) [] := ev_step (fun _ => spec_WithLabel.j0.eq_2 ..) (ev_pos rfl (ev_now _))
  obtain ⟨r, hr, k1, k2⟩ := key
  unfold impl_WithLabel.f spec_WithLabel.f
  by_cases h1 : goodL l = true
  · by_cases h2 : nameL (Y n) = true
    · by_cases h3 : v.toList = []
      · exact ⟨r, hr, ev_bind (goodLabels_impl l hf) (ev_pos h1 (ev_bind (name_impl n hn) (ev_pos h2 (ev_pos h3 k1)))), ev_bind (goodLabels_spec l hf) (ev_pos h1 (ev_bind (name_spec n hn) (ev_pos h2 (ev_pos h3 k2))))⟩
      · cases h4 : valL (Y v) with
        | true => exact ⟨r, hr, ev_bind (goodLabels_impl l hf) (ev_pos h1 (ev_bind (name_impl n hn) (ev_pos h2 (ev_neg h3 (ev_bind (value_impl v hv) (by rw [h4]; exact k1)))))), ev_bind (goodLabels_spec l hf) (ev_pos h1 (ev_bind (name_spec n hn) (ev_pos h2 (ev_neg h3 (ev_bind (value_spec v hv) (by rw [h4]; exact k2))))))⟩
        | false => exact ⟨[], by simp, ev_bind (goodLabels_impl l hf) (ev_pos h1 (ev_bind (name_impl n hn) (ev_pos h2 (ev_neg h3 (ev_bind (value_impl v hv) (by rw [h4]; exact no1)))))), ev_bind (goodLabels_spec l hf) (ev_pos h1 (ev_bind (name_spec n hn) (ev_pos h2 (ev_neg h3 (ev_bind (value_spec v hv) (by rw [h4]; exact no2))))))⟩
    · exact ⟨[], by simp, ev_bind (goodLabels_impl l hf) (ev_pos h1 (ev_bind (name_impl n hn) (ev_neg h2 no1))), ev_bind (goodLabels_spec l hf) (ev_pos h1 (ev_bind (name_spec n hn) (ev_neg h2 no2)))⟩
  · exact ⟨[], by simp, ev_bind (goodLabels_impl l hf) (ev_neg h1 no1), ev_bind (goodLabels_spec l hf) (ev_neg h1 no2)⟩

end Go.Proofs.Ythgeohdpjedhnaa.U
