/- Plain lemmas over the printed functions, for the law FnExactNewHead; each theorem states its own conditions. -/
import Derived.Test.YtjapdjkckhcelaaPrx0
import Derived.Test.YtjapdjkckhcelaaPrxg12584n1
import Derived.Test.YtjapdjkckhcelaaPrxg1cf53n1
namespace Go.Proofs.Ytjapdjkckhcelaa.U
open Go.RowKit Go.Proofs.Ytjapdjkckhcelaa.Pr Go.Proofs.YtjapdjkckhcelaaW.PrintWords Go.Proofs.YtjapdjkckhcelaaW.PrintLast Go.Proofs.YtjapdjkckhcelaaW.PrintMore
set_option linter.unusedVariables false
set_option linter.unusedSimpArgs false
/-! Words for plain proofs over the printed functions: from some number of rounds on; loops that go up; ranges. -/
theorem w64 {x : Int} (h0 : -9223372036854775808 ≤ x) (h1 : x ≤ 9223372036854775807) : wrap64 x = x := by unfold wrap64; omega
theorem w64n {i n : Nat} (h : i < n) (hn : n ≤ 9223372036854775807) : wrap64 ((i : Int) + 1) = ((i + 1 : Nat) : Int) := by unfold wrap64; omega
theorem wu64 (n : Int) : IntKind.u64.wrap n = n % 18446744073709551616 := by simp [IntKind.wrap, IntKind.bits, IntKind.signed]
theorem bu64 (op : BinOp) (x y : Int) : 0 ≤ bits op .u64 x y ∧ bits op .u64 x y < 18446744073709551616 := by
  unfold bits
  simp only [wu64]
  omega
theorem bu32 (op : BinOp) (x y : Int) : 0 ≤ bits op .u32 x y ∧ bits op .u32 x y < 4294967296 := by
  unfold bits
  simp only [IntKind.wrap_u32]
  omega
theorem or_comm_ (k : IntKind) (x y : Int) : bits .or k x y = bits .or k y x := by
  simp only [bits, BitVec.or_comm]
theorem ev_now {α : Type} (r : α) : Ev (fun _ => some r) r := Ev.now r
theorem ev_eq {α : Type} {g : Option α} {r : α} (h : g = some r) : Ev (fun _ => g) r := ⟨0, fun _ _ => h⟩
theorem ev_pos {α : Type} {c : Prop} [Decidable c] {a b : Nat → Option α} {r : α} (h : c) (e : Ev a r) : Ev (fun k => if c then a k else b k) r := by
  obtain ⟨K, e⟩ := e
  exact ⟨K, fun k hk => (if_pos h).trans (e k hk)⟩
theorem ev_neg {α : Type} {c : Prop} [Decidable c] {a b : Nat → Option α} {r : α} (h : ¬ c) (e : Ev b r) : Ev (fun k => if c then a k else b k) r := by
  obtain ⟨K, e⟩ := e
  exact ⟨K, fun k hk => (if_neg h).trans (e k hk)⟩
theorem ev_ite {α : Type} {c : Prop} [Decidable c] {a b : Nat → Option α} {r : α} (h : c → Ev a r) (h' : ¬ c → Ev b r) : Ev (fun k => if c then a k else b k) r := by
  by_cases hc : c
  · exact ev_pos hc (h hc)
  · exact ev_neg hc (h' hc)
theorem ev_bind {α β : Type} {g : Nat → Option α} {f : Nat → α → Option β} {a : α} {r : β} (h : Ev g a) (k : Ev (fun n => f n a) r) : Ev (fun n => (g n).bind (f n)) r := Ev.bind h k
theorem ev_some {α β : Type} {f : Nat → α → Option β} {a : α} {r : β} (k : Ev (fun n => f n a) r) : Ev (fun n => (some a).bind (f n)) r := Ev.bind (Ev.now a) k
theorem ev_step {α : Type} {g f : Nat → Option α} {r : α} (h : ∀ k, g (k + 1) = f k) (k : Ev f r) : Ev g r := Ev.step h k
theorem ev_one {α : Type} {g : Nat → Option α} {r q : α} (h : Ev g r) (h' : Ev g q) : r = q := by
  obtain ⟨K, h⟩ := h
  obtain ⟨K', h'⟩ := h'
  exact Option.some.inj ((h (max K K') (Nat.le_max_left _ _)).symm.trans (h' _ (Nat.le_max_right _ _)))
/-- What holds at the end and goes down a round, holds at each round. -/
theorem up_ind (n : Nat) (Q : Nat → Prop) (done : Q n) (step : ∀ i, i < n → Q (i + 1) → Q i) : ∀ i, i ≤ n → Q i := by
  have key : ∀ d i, i + d = n → Q i := by
    intro d
    induction d with
    | zero =>
      intro i h
      have e : i = n := by omega
      rw [e]
      exact done
    | succ d ih => intro i h; exact step i (by omega) (ih (i + 1) (by omega))
  exact fun i h => key (n - i) i (by omega)
theorem getD_lt {α : Type} {l : List α} {d : α} {i : Nat} (h : i < l.length) : l.getD ((i : Int).toNat) d = l[i] := by
  rw [Int.toNat_natCast, List.getD_eq_getElem?_getD, List.getElem?_eq_getElem h]
  rfl
theorem rd_at {l : List Int} {i : Nat} (h : i < l.length) : rd l (i : Int) = l[i] := getD_lt h
theorem rdOf_at {α : Type} {d : α} {l : List α} {i : Nat} (h : i < l.length) : rdOf d l (i : Int) = l[i] := getD_lt h
/-- A loop that writes a row anew, element by element. -/
theorem ev_copy {α β : Type} (F : Nat → List β → Int → Option (List β)) (cv : α → β) (l : List α) (x : List β) (hx : x.length = l.length)
    (step : ∀ (i : Nat) (h : i < l.length) (y r : List β), y.length = l.length → Ev (fun k => F k (y.set i (cv l[i])) ((i + 1 : Nat) : Int)) r → Ev (fun k => F k y (i : Int)) r)
    (done : ∀ y : List β, y.length = l.length → Ev (fun k => F k y (l.length : Int)) y) : Ev (fun k => F k x 0) (l.map cv) := by
  refine up_ind l.length (fun i => ∀ y : List β, y.length = l.length → (∀ j, j < i → y[j]? = (l.map cv)[j]?) → Ev (fun k => F k y (i : Int)) (l.map cv)) ?_ ?_ 0 (by omega) x hx (fun j hj => by omega)
  · intro y hy h
    have e : y = l.map cv := by
      apply List.ext_getElem?
      intro j
      by_cases hj : j < l.length
      · exact h j hj
      · rw [List.getElem?_eq_none (by omega), List.getElem?_eq_none (by simp; omega)]
    have d := done y hy
    rw [e] at d ⊢
    exact d
  · intro i hi ih y hy h
    refine step i hi y _ hy (ih _ (by simp [hy]) (fun j hj => ?_))
    by_cases e : j = i
    · subst e
      rw [List.getElem?_set_self (by omega), List.getElem?_map, List.getElem?_eq_getElem hi]
      rfl
    · rw [List.getElem?_set_ne (Ne.symm e)]
      exact h j (by omega)

end Go.Proofs.Ytjapdjkckhcelaa.U
namespace Go.Proofs.Ytjapdjkckhcelaa.U
open Go.RowKit Go.Proofs.Ytjapdjkckhcelaa.Pr Go.Proofs.YtjapdjkckhcelaaW.PrintWords Go.Proofs.YtjapdjkckhcelaaW.PrintLast Go.Proofs.YtjapdjkckhcelaaW.PrintMore
set_option linter.unusedVariables false
set_option linter.unusedSimpArgs false
/-- Times that rise, from lo on, each one in its range. -/
def incS (lo : Int) : List S37 → Bool
  | [] => true
  | x :: xs => decide (0 ≤ x.f0) && decide (x.f0 ≤ 1000000000000) && decide (lo < x.f0) && incS x.f0 xs
def goodS (l : List S37) : Bool := decide (l.length ≤ 2000) && incS (-1) l
def ptS (l : List S37) (i : Nat) : Int := if i = 0 then -1 else (rd_T37 l ((i - 1 : Nat) : Int)).f0
theorem isTime_yes {x : Int} (h : 0 ≤ x ∧ x ≤ 1000000000000) : impl_isTime.f x = some true ∧ spec_l3Time.f x = some true := by
  unfold impl_isTime.f spec_l3Time.f
  rw [if_pos h.1, decide_eq_true h.2]
  exact ⟨rfl, rfl⟩
theorem isTime_no {x : Int} (h : ¬ (0 ≤ x ∧ x ≤ 1000000000000)) : impl_isTime.f x = some false ∧ spec_l3Time.f x = some false := by
  unfold impl_isTime.f spec_l3Time.f
  by_cases h0 : x ≥ 0
  · rw [if_pos h0, decide_eq_false (by omega)]
    exact ⟨rfl, rfl⟩
  · rw [if_neg h0]
    exact ⟨rfl, rfl⟩
theorem gs_impl (l : List S37) (hl : l.length ≤ 9223372036854775807) : ∀ i, i ≤ l.length → Ev (fun k => impl_GoodSamples.l0 k l l (l.length : Int) (i : Int)) ((incS (ptS l i) (l.drop i))) := by
  have hrd : ∀ (i : Nat) (h : i < l.length), rd_T37 l (i : Int) = l[i] := fun i h => getD_lt h
  refine up_ind l.length (fun i => Ev (fun k => impl_GoodSamples.l0 k l l (l.length : Int) (i : Int)) ((incS (ptS l i) (l.drop i)))) ?_ ?_
  · rw [List.drop_length]
    refine ev_step (fun _ => impl_GoodSamples.l0.eq_2 ..) (ev_neg (by omega) ?_)
    exact ev_now _
  · intro i h ih
    have hp : ptS l (i + 1) = l[i].f0 := by unfold ptS; rw [if_neg (by omega), Nat.add_sub_cancel, hrd i h]
    rw [hp] at ih
    have wi : wrap64 ((i : Int) + 1) = ((i + 1 : Nat) : Int) := w64n h hl
    refine ev_step (fun _ => impl_GoodSamples.l0.eq_2 ..) (ev_pos (by omega) (ev_pos (by omega) (ev_pos (by omega) ?_)))
    rw [hrd i h, List.drop_eq_getElem_cons h]
    by_cases ht : 0 ≤ l[i].f0 ∧ l[i].f0 ≤ 1000000000000
    · refine ev_bind (ev_eq (isTime_yes ht).1) (ev_pos rfl ?_)
      by_cases hi : i = 0
      · subst hi
        have e : incS (ptS l 0) (l[0] :: l.drop (0 + 1)) = incS l[0].f0 (l.drop (0 + 1)) := by simp [incS, ptS, ht]; omega
        rw [e, wi]
        exact ev_neg (by omega) ih
      · have wm : wrap64 ((i : Int) - 1) = ((i - 1 : Nat) : Int) := by rw [w64 (by omega) (by omega)]; omega
        rw [wm, hrd (i - 1) (by omega)]
        refine ev_pos (by omega) (ev_pos (by omega) (ev_pos (by omega) ?_))
        have hq : ptS l i = l[i - 1].f0 := by unfold ptS; rw [if_neg hi, hrd (i - 1) (by omega)]
        rw [hq]
        by_cases hc : l[i - 1].f0 ≥ l[i].f0
        · have e : incS l[i - 1].f0 (l[i] :: l.drop (i + 1)) = false := by simp [incS]; omega
          rw [e]
          refine ev_pos hc ?_
          exact ev_now _
        · have e : incS l[i - 1].f0 (l[i] :: l.drop (i + 1)) = incS l[i].f0 (l.drop (i + 1)) := by simp [incS, ht]; omega
          rw [e, wi]
          exact ev_neg hc ih
    · have e : incS (ptS l i) (l[i] :: l.drop (i + 1)) = false := by simp [incS]; omega
      rw [e]
      refine ev_bind (ev_eq (isTime_no ht).1) (ev_neg (by decide) ?_)
      exact ev_now _
theorem gs_spec (l : List S37) (hl : l.length ≤ 9223372036854775807) : ∀ i, i ≤ l.length → Ev (fun k => spec_GoodSamples.l0 k l l (l.length : Int) (i : Int)) (decide (l.length ≤ 2000) && (incS (ptS l i) (l.drop i))) := by
  have hrd : ∀ (i : Nat) (h : i < l.length), rd_T37 l (i : Int) = l[i] := fun i h => getD_lt h
  refine up_ind l.length (fun i => Ev (fun k => spec_GoodSamples.l0 k l l (l.length : Int) (i : Int)) (decide (l.length ≤ 2000) && (incS (ptS l i) (l.drop i)))) ?_ ?_
  · rw [List.drop_length]
    refine ev_step (fun _ => spec_GoodSamples.l0.eq_2 ..) (ev_neg (by omega) ?_)
    rw [show decide ((l.length : Int) ≤ 2000) = (decide (l.length ≤ 2000) && incS (ptS l l.length) []) from by simp [incS]; omega]
    exact ev_now _
  · intro i h ih
    have hp : ptS l (i + 1) = l[i].f0 := by unfold ptS; rw [if_neg (by omega), Nat.add_sub_cancel, hrd i h]
    rw [hp] at ih
    have wi : wrap64 ((i : Int) + 1) = ((i + 1 : Nat) : Int) := w64n h hl
    refine ev_step (fun _ => spec_GoodSamples.l0.eq_2 ..) (ev_pos (by omega) (ev_pos (by omega) (ev_pos (by omega) ?_)))
    rw [hrd i h, List.drop_eq_getElem_cons h]
    by_cases ht : 0 ≤ l[i].f0 ∧ l[i].f0 ≤ 1000000000000
    · refine ev_bind (ev_eq (isTime_yes ht).2) (ev_pos rfl ?_)
      by_cases hi : i = 0
      · subst hi
        have e : incS (ptS l 0) (l[0] :: l.drop (0 + 1)) = incS l[0].f0 (l.drop (0 + 1)) := by simp [incS, ptS, ht]; omega
        rw [e, wi]
        exact ev_neg (by omega) ih
      · have wm : wrap64 ((i : Int) - 1) = ((i - 1 : Nat) : Int) := by rw [w64 (by omega) (by omega)]; omega
        rw [wm, hrd (i - 1) (by omega)]
        refine ev_pos (by omega) (ev_pos (by omega) (ev_pos (by omega) ?_))
        have hq : ptS l i = l[i - 1].f0 := by unfold ptS; rw [if_neg hi, hrd (i - 1) (by omega)]
        rw [hq]
        by_cases hc : l[i - 1].f0 ≥ l[i].f0
        · have e : incS l[i - 1].f0 (l[i] :: l.drop (i + 1)) = false := by simp [incS]; omega
          rw [e]
          refine ev_pos hc ?_
          rw [Bool.and_false]
          exact ev_now _
        · have e : incS l[i - 1].f0 (l[i] :: l.drop (i + 1)) = incS l[i].f0 (l.drop (i + 1)) := by simp [incS, ht]; omega
          rw [e, wi]
          exact ev_neg hc ih
    · have e : incS (ptS l i) (l[i] :: l.drop (i + 1)) = false := by simp [incS]; omega
      rw [e]
      refine ev_bind (ev_eq (isTime_no ht).2) (ev_neg (by decide) ?_)
      rw [Bool.and_false]
      exact ev_now _
theorem goodSamples_impl (l : List S37) (hl : l.length ≤ 9223372036854775807) : Ev (fun k => impl_GoodSamples.f k l) (goodS l) := by
  unfold impl_GoodSamples.f goodS
  by_cases h : l.length ≤ 2000
  · rw [decide_eq_true h, Bool.true_and]
    exact ev_neg (by omega) (gs_impl l hl 0 (by omega))
  · rw [decide_eq_false h, Bool.false_and]
    exact ev_pos (by omega) (ev_now _)
theorem goodSamples_spec (l : List S37) (hl : l.length ≤ 9223372036854775807) : Ev (fun k => spec_GoodSamples.f k l) (goodS l) := by
  unfold spec_GoodSamples.f
  exact gs_spec l hl 0 (by omega)

end Go.Proofs.Ytjapdjkckhcelaa.U
