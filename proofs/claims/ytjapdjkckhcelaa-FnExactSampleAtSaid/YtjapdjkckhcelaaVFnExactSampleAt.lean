/- Plain lemmas over the printed functions, for the law FnExactSampleAt; each theorem states its own conditions. -/
import Derived.Test.YtjapdjkckhcelaaPrx0
import Derived.Test.YtjapdjkckhcelaaPrxg12584n1
import Derived.Test.YtjapdjkckhcelaaPrxg1cf53n1
import Derived.Test.YtjapdjkckhcelaaPrxg1d1fdn1
import Derived.Test.YtjapdjkckhcelaaPrxg47c89n1
import Derived.Test.YtjapdjkckhcelaaPrxg6aea3n1
import Derived.Test.YtjapdjkckhcelaaPrxgf8879n1
namespace Go.Proofs.Ytjapdjkckhcelaa.U
open Go.RowKit Go.Proofs.Ytjapdjkckhcelaa.Pr Go.Proofs.YtjapdjkckhcelaaW.PrintWords Go.Proofs.YtjapdjkckhcelaaW.PrintLast Go.Proofs.YtjapdjkckhcelaaW.PrintMore
set_option linter.unusedVariables false
set_option linter.unusedSimpArgs false
/-! Words for plain proofs over the printed functions: from some number of rounds on; loops that go up; ranges. -/
theorem w64 {x : Int} (h0 : -9223372036854775808 ≤ x) (h1 : x ≤ 9223372036854775807) : wrap64 x = x := by unfold wrap64; omega
theorem w64n {i n : Nat} (h : i < n) (hn : n ≤ 9223372036854775807) : wrap64 ((i : Int) + 1) = ((i + 1 : Nat) : Int) := by unfold wrap64; omega
theorem wu64 (n : Int) : IntKind.u64.wrap n = n % 18446744073709551616 := by simp [IntKind.wrap, IntKind.bits, IntKind.signed]
theorem bu64 (op : BinOp) (x y : Int) : 0 ≤ bits op .u64 x y ∧ bits op .u64 x y < 18446744073709551616 := by
  unfold bits
  simp only [wu64]
  omega
theorem bu32 (op : BinOp) (x y : Int) : 0 ≤ bits op .u32 x y ∧ bits op .u32 x y < 4294967296 := by
  unfold bits
  simp only [IntKind.wrap_u32]
  omega
theorem or_comm_ (k : IntKind) (x y : Int) : bits .or k x y = bits .or k y x := by
  simp only [bits, BitVec.or_comm]
theorem ev_now {α : Type} (r : α) : Ev (fun _ => some r) r := Ev.now r
theorem ev_eq {α : Type} {g : Option α} {r : α} (h : g = some r) : Ev (fun _ => g) r := ⟨0, fun _ _ => h⟩
theorem ev_pos {α : Type} {c : Prop} [Decidable c] {a b : Nat → Option α} {r : α} (h : c) (e : Ev a r) : Ev (fun k => if c then a k else b k) r := by
  obtain ⟨K, e⟩ := e
  exact ⟨K, fun k hk => (if_pos h).trans (e k hk)⟩
theorem ev_neg {α : Type} {c : Prop} [Decidable c] {a b : Nat → Option α} {r : α} (h : ¬ c) (e : Ev b r) : Ev (fun k => if c then a k else b k) r := by
  obtain ⟨K, e⟩ := e
  exact ⟨K, fun k hk => (if_neg h).trans (e k hk)⟩
theorem ev_ite {α : Type} {c : Prop} [Decidable c] {a b : Nat → Option α} {r : α} (h : c → Ev a r) (h' : ¬ c → Ev b r) : Ev (fun k => if c then a k else b k) r := by
  by_cases hc : c
  · exact ev_pos hc (h hc)
  · exact ev_neg hc (h' hc)
theorem ev_bind {α β : Type} {g : Nat → Option α} {f : Nat → α → Option β} {a : α} {r : β} (h : Ev g a) (k : Ev (fun n => f n a) r) : Ev (fun n => (g n).bind (f n)) r := Ev.bind h k
theorem ev_some {α β : Type} {f : Nat → α → Option β} {a : α} {r : β} (k : Ev (fun n => f n a) r) : Ev (fun n => (some a).bind (f n)) r := Ev.bind (Ev.now a) k
theorem ev_step {α : Type} {g f : Nat → Option α} {r : α} (h : ∀ k, g (k + 1) = f k) (k : Ev f r) : Ev g r := Ev.step h k
theorem ev_one {α : Type} {g : Nat → Option α} {r q : α} (h : Ev g r) (h' : Ev g q) : r = q := by
  obtain ⟨K, h⟩ := h
  obtain ⟨K', h'⟩ := h'
  exact Option.some.inj ((h (max K K') (Nat.le_max_left _ _)).symm.trans (h' _ (Nat.le_max_right _ _)))
/-- What holds at the end and goes down a round, holds at each round. -/
theorem up_ind (n : Nat) (Q : Nat → Prop) (done : Q n) (step : ∀ i, i < n → Q (i + 1) → Q i) : ∀ i, i ≤ n → Q i := by
  have key : ∀ d i, i + d = n → Q i := by
    intro d
    induction d with
    | zero =>
      intro i h
      have e : i = n := by omega
      rw [e]
      exact done
    | succ d ih => intro i h; exact step i (by omega) (ih (i + 1) (by omega))
  exact fun i h => key (n - i) i (by omega)
theorem getD_lt {α : Type} {l : List α} {d : α} {i : Nat} (h : i < l.length) : l.getD ((i : Int).toNat) d = l[i] := by
  rw [Int.toNat_natCast, List.getD_eq_getElem?_getD, List.getElem?_eq_getElem h]
  rfl
theorem rd_at {l : List Int} {i : Nat} (h : i < l.length) : rd l (i : Int) = l[i] := getD_lt h
theorem rdOf_at {α : Type} {d : α} {l : List α} {i : Nat} (h : i < l.length) : rdOf d l (i : Int) = l[i] := getD_lt h
/-- A loop that writes a row anew, element by element. -/
theorem ev_copy {α β : Type} (F : Nat → List β → Int → Option (List β)) (cv : α → β) (l : List α) (x : List β) (hx : x.length = l.length)
    (step : ∀ (i : Nat) (h : i < l.length) (y r : List β), y.length = l.length → Ev (fun k => F k (y.set i (cv l[i])) ((i + 1 : Nat) : Int)) r → Ev (fun k => F k y (i : Int)) r)
    (done : ∀ y : List β, y.length = l.length → Ev (fun k => F k y (l.length : Int)) y) : Ev (fun k => F k x 0) (l.map cv) := by
  refine up_ind l.length (fun i => ∀ y : List β, y.length = l.length → (∀ j, j < i → y[j]? = (l.map cv)[j]?) → Ev (fun k => F k y (i : Int)) (l.map cv)) ?_ ?_ 0 (by omega) x hx (fun j hj => by omega)
  · intro y hy h
    have e : y = l.map cv := by
      apply List.ext_getElem?
      intro j
      by_cases hj : j < l.length
      · exact h j hj
      · rw [List.getElem?_eq_none (by omega), List.getElem?_eq_none (by simp; omega)]
    have d := done y hy
    rw [e] at d ⊢
    exact d
  · intro i hi ih y hy h
    refine step i hi y _ hy (ih _ (by simp [hy]) (fun j hj => ?_))
    by_cases e : j = i
    · subst e
      rw [List.getElem?_set_self (by omega), List.getElem?_map, List.getElem?_eq_getElem hi]
      rfl
    · rw [List.getElem?_set_ne (Ne.symm e)]
      exact h j (by omega)

end Go.Proofs.Ytjapdjkckhcelaa.U
namespace Go.Proofs.Ytjapdjkckhcelaa.U
open Go.RowKit Go.Proofs.Ytjapdjkckhcelaa.Pr Go.Proofs.YtjapdjkckhcelaaW.PrintWords Go.Proofs.YtjapdjkckhcelaaW.PrintLast Go.Proofs.YtjapdjkckhcelaaW.PrintMore
set_option linter.unusedVariables false
set_option linter.unusedSimpArgs false
def cv90 (x : S90) : S37 := ⟨x.f0, x.f1⟩
theorem toSample (x : S90) : Ev (fun _ => laws_toSample.f x.f0 x.f1) (x.f0, x.f1) := by
  unfold laws_toSample.f
  exact ev_now _
theorem eqSample (x : S37) : Ev (fun _ => laws_eqSample.f x.f0 x.f1 x.f0 x.f1) true := ev_eq (by simp [laws_eqSample.f])

end Go.Proofs.Ytjapdjkckhcelaa.U
namespace Go.Proofs.Ytjapdjkckhcelaa.U
open Go.RowKit Go.Proofs.Ytjapdjkckhcelaa.Pr Go.Proofs.YtjapdjkckhcelaaW.PrintWords Go.Proofs.YtjapdjkckhcelaaW.PrintLast Go.Proofs.YtjapdjkckhcelaaW.PrintMore
set_option linter.unusedVariables false
set_option linter.unusedSimpArgs false
theorem toSampleS (l : List (S90)) (hl : l.length ≤ 1048576) : Ev (fun k => laws_toSampleS.f k l) (l.map cv90) := by
  unfold laws_toSampleS.f
  repeat (first | (with_reducible refine ev_pos (by first | omega | rfl | decide) ?_) | (with_reducible refine ev_neg (by first | omega | decide) ?_))
  have key := ev_copy (F := fun k y i => laws_toSampleS.l0 k l y i) cv90 l (List.replicate ((l.length : Int) : Int).toNat z37) (by simp) ?step ?done
  case step =>
    intro i h y r hy hr
    refine ev_step (fun _ => laws_toSampleS.l0.eq_2 ..) ?_
    repeat (first | (with_reducible refine ev_pos (by first | omega | rfl | decide) ?_) | (with_reducible refine ev_neg (by first | omega | decide) ?_))
    rw [(show rd_T90 l (i : Int) = l[i] from getD_lt h)]
    refine ev_bind (toSample l[i] ) ?_
    repeat (first | (with_reducible refine ev_pos (by first | omega | rfl | decide) ?_) | (with_reducible refine ev_neg (by first | omega | decide) ?_))
    rw [w64n h (by omega), Int.toNat_natCast]
    exact hr
  case done =>
    intro y hy
    refine ev_step (fun _ => laws_toSampleS.l0.eq_2 ..) ?_
    repeat (first | (with_reducible refine ev_pos (by first | omega | rfl | decide) ?_) | (with_reducible refine ev_neg (by first | omega | decide) ?_))
    exact ev_now _
  exact key
theorem eqSampleS (l : List (S37)) (hl : l.length ≤ 1048576) : Ev (fun k => laws_eqSampleS.f k l l) true := by
  unfold laws_eqSampleS.f
  refine ev_pos rfl ?_
  refine up_ind l.length (fun i => Ev (fun k => laws_eqSampleS.l0 k l l (i : Int)) true) ?_ ?_ 0 (by omega)
  · refine ev_step (fun _ => laws_eqSampleS.l0.eq_2 ..) ?_
    refine ev_neg (by omega) ?_
    exact ev_now _
  · intro i h ih
    refine ev_step (fun _ => laws_eqSampleS.l0.eq_2 ..) ?_
    repeat (first | (with_reducible refine ev_pos (by first | omega | rfl | decide) ?_) | (with_reducible refine ev_neg (by first | omega | decide) ?_))
    refine ev_bind (eqSample _) ?_
    refine ev_pos rfl ?_
    rw [w64n h (by omega)]
    exact ih
theorem szSampleS (l : List (S90)) (c : Int) (h0 : 0 ≤ c) (h1 : c ≤ 1048576) (hl : l.length ≤ maxLen)  : ∃ r, Ev (fun _ => laws_szSampleS.f l c) r ∧ r ≤ c ∧ (0 ≤ r → l.length ≤ 1048576) := by
  simp only [maxLen] at hl
  unfold laws_szSampleS.f
  rw [w64 (x := c - (l.length : Int)) (by omega) (by omega)]
  by_cases hn : c - (l.length : Int) < 0
  · exact ⟨-1, ev_pos hn (ev_now _), by omega, fun h => absurd h (by decide)⟩
  · exact ⟨_, ev_neg hn (ev_now _), by omega, fun _ => by omega⟩
theorem markSampleS (l : List (S37)) (hl : l.length ≤ 1048576) (c : Int) (h0 : 0 < c) (h1 : c ≤ 4611686018427387904) : ∃ y c', Ev (fun k => laws_markSampleS.f k l c) (c', y) ∧ Ev (fun k => laws_heldSampleS.f k y c) c' ∧ c ≤ c' ∧ c' ≤ c + 2 * l.length := by
  have key := up_ind l.length (fun i => ∀ (x : List (S37)) (c : Int), x.length = l.length → 0 < c → c + 2 * (l.length - i : Nat) ≤ 9000000000000000000 → ∃ y c', Ev (fun k => laws_markSampleS.l0 k x c (i : Int)) (c', y) ∧ Ev (fun k => laws_heldSampleS.l0 k y c (i : Int)) c' ∧ y.length = l.length ∧ (∀ j, j < i → y[j]? = x[j]?) ∧ c ≤ c' ∧ c' ≤ c + 2 * (l.length - i : Nat)) ?d ?s 0 (by omega) l c rfl h0 (by omega)
  case d =>
    intro x c hx h0 h1
    refine ⟨x, c, ev_step (fun _ => laws_markSampleS.l0.eq_2 ..) (ev_neg (by omega) (ev_now _)), ev_step (fun _ => laws_heldSampleS.l0.eq_2 ..) (ev_neg (by omega) (ev_now _)), hx, fun _ _ => rfl, by omega, by omega⟩
  case s =>
    intro i h ih x c hx h0 h1
    have w1 : wrap64 (c + 1) = c + 1 := (w64 (by omega) (by omega)).trans (by omega)
    have w2 : wrap64 ((c + 1) + 1) = c + 2 := (w64 (by omega) (by omega)).trans (by omega)
    have wi : wrap64 ((i : Int) + 1) = ((i + 1 : Nat) : Int) := w64n h (by omega)
    have hset : ∀ a, rd_T37 (x.set i a) (i : Int) = a := fun a => by rw [show rd_T37 (x.set i a) (i : Int) = (x.set i a)[i]'(by simp; omega) from getD_lt (by simp; omega)]; simp
    obtain ⟨y, c', e1, e2, hy, hj, q1, q2⟩ := ih (x.set i ⟨c, (c + 1)⟩) (c + 2) (by simp [hx]) (by omega) (by omega)
    refine ⟨y, c', ev_step (fun _ => laws_markSampleS.l0.eq_2 ..) ?_, ev_step (fun _ => laws_heldSampleS.l0.eq_2 ..) ?_, hy, fun j h' => ?_, by omega, by omega⟩
    · simp only [w1, w2, wi, Int.toNat_natCast]
      repeat (first | (with_reducible refine ev_pos (by first | omega | rfl | decide) ?_) | (with_reducible refine ev_some ?_))
      simp only [hset, List.set_set]
      exact e1
    · have ey : rd_T37 y (i : Int) = ⟨c, (c + 1)⟩ := by
        have := hj i (by omega)
        rw [List.getElem?_set_self (by omega), List.getElem?_eq_getElem (by omega)] at this
        rw [show rd_T37 y (i : Int) = y[i]'(by omega) from getD_lt (by omega)]
        exact Option.some.inj this
      simp only [ey, w1, w2, wi]
      repeat (first | (with_reducible refine ev_pos (by first | omega | rfl | decide) ?_))
      exact e2
    · rw [hj j (by omega), List.getElem?_set_ne (by omega)]
  obtain ⟨y, c', e1, e2, _, _, q1, q2⟩ := key
  exact ⟨y, c', e1, e2, q1, by omega⟩

end Go.Proofs.Ytjapdjkckhcelaa.U
namespace Go.Proofs.Ytjapdjkckhcelaa.U
open Go.RowKit Go.Proofs.Ytjapdjkckhcelaa.Pr Go.Proofs.YtjapdjkckhcelaaW.PrintWords Go.Proofs.YtjapdjkckhcelaaW.PrintLast Go.Proofs.YtjapdjkckhcelaaW.PrintMore
set_option linter.unusedVariables false
set_option linter.unusedSimpArgs false
/-- Times that rise, from lo on, each one in its range. -/
def incS (lo : Int) : List S37 → Bool
  | [] => true
  | x :: xs => decide (0 ≤ x.f0) && decide (x.f0 ≤ 1000000000000) && decide (lo < x.f0) && incS x.f0 xs
def goodS (l : List S37) : Bool := decide (l.length ≤ 2000) && incS (-1) l
def ptS (l : List S37) (i : Nat) : Int := if i = 0 then -1 else (rd_T37 l ((i - 1 : Nat) : Int)).f0
theorem isTime_yes {x : Int} (h : 0 ≤ x ∧ x ≤ 1000000000000) : impl_isTime.f x = some true ∧ spec_l3Time.f x = some true := by
  unfold impl_isTime.f spec_l3Time.f
  rw [if_pos h.1, decide_eq_true h.2]
  exact ⟨rfl, rfl⟩
theorem isTime_no {x : Int} (h : ¬ (0 ≤ x ∧ x ≤ 1000000000000)) : impl_isTime.f x = some false ∧ spec_l3Time.f x = some false := by
  unfold impl_isTime.f spec_l3Time.f
  by_cases h0 : x ≥ 0
  · rw [if_pos h0, decide_eq_false (by omega)]
    exact ⟨rfl, rfl⟩
  · rw [if_neg h0]
    exact ⟨rfl, rfl⟩
theorem gs_impl (l : List S37) (hl : l.length ≤ 9223372036854775807) : ∀ i, i ≤ l.length → Ev (fun k => impl_GoodSamples.l0 k l l (l.length : Int) (i : Int)) ((incS (ptS l i) (l.drop i))) := by
  have hrd : ∀ (i : Nat) (h : i < l.length), rd_T37 l (i : Int) = l[i] := fun i h => getD_lt h
  refine up_ind l.length (fun i => Ev (fun k => impl_GoodSamples.l0 k l l (l.length : Int) (i : Int)) ((incS (ptS l i) (l.drop i)))) ?_ ?_
  · rw [List.drop_length]
    refine ev_step (fun _ => impl_GoodSamples.l0.eq_2 ..) (ev_neg (by omega) ?_)
    exact ev_now _
  · intro i h ih
    have hp : ptS l (i + 1) = l[i].f0 := by unfold ptS; rw [if_neg (by omega), Nat.add_sub_cancel, hrd i h]
    rw [hp] at ih
    have wi : wrap64 ((i : Int) + 1) = ((i + 1 : Nat) : Int) := w64n h hl
    refine ev_step (fun _ => impl_GoodSamples.l0.eq_2 ..) (ev_pos (by omega) (ev_pos (by omega) (ev_pos (by omega) ?_)))
    rw [hrd i h, List.drop_eq_getElem_cons h]
    by_cases ht : 0 ≤ l[i].f0 ∧ l[i].f0 ≤ 1000000000000
    · refine ev_bind (ev_eq (isTime_yes ht).1) (ev_pos rfl ?_)
      by_cases hi : i = 0
      · subst hi
        have e : incS (ptS l 0) (l[0] :: l.drop (0 + 1)) = incS l[0].f0 (l.drop (0 + 1)) := by simp [incS, ptS, ht]; omega
        rw [e, wi]
        exact ev_neg (by omega) ih
      · have wm : wrap64 ((i : Int) - 1) = ((i - 1 : Nat) : Int) := by rw [w64 (by omega) (by omega)]; omega
        rw [wm, hrd (i - 1) (by omega)]
        refine ev_pos (by omega) (ev_pos (by omega) (ev_pos (by omega) ?_))
        have hq : ptS l i = l[i - 1].f0 := by unfold ptS; rw [if_neg hi, hrd (i - 1) (by omega)]
        rw [hq]
        by_cases hc : l[i - 1].f0 ≥ l[i].f0
        · have e : incS l[i - 1].f0 (l[i] :: l.drop (i + 1)) = false := by simp [incS]; omega
          rw [e]
          refine ev_pos hc ?_
          exact ev_now _
        · have e : incS l[i - 1].f0 (l[i] :: l.drop (i + 1)) = incS l[i].f0 (l.drop (i + 1)) := by simp [incS, ht]; omega
          rw [e, wi]
          exact ev_neg hc ih
    · have e : incS (ptS l i) (l[i] :: l.drop (i + 1)) = false := by simp [incS]; omega
      rw [e]
      refine ev_bind (ev_eq (isTime_no ht).1) (ev_neg (by decide) ?_)
      exact ev_now _
theorem gs_spec (l : List S37) (hl : l.length ≤ 9223372036854775807) : ∀ i, i ≤ l.length → Ev (fun k => spec_GoodSamples.l0 k l l (l.length : Int) (i : Int)) (decide (l.length ≤ 2000) && (incS (ptS l i) (l.drop i))) := by
  have hrd : ∀ (i : Nat) (h : i < l.length), rd_T37 l (i : Int) = l[i] := fun i h => getD_lt h
  refine up_ind l.length (fun i => Ev (fun k => spec_GoodSamples.l0 k l l (l.length : Int) (i : Int)) (decide (l.length ≤ 2000) && (incS (ptS l i) (l.drop i)))) ?_ ?_
  · rw [List.drop_length]
    refine ev_step (fun _ => spec_GoodSamples.l0.eq_2 ..) (ev_neg (by omega) ?_)
    rw [show decide ((l.length : Int) ≤ 2000) = (decide (l.length ≤ 2000) && incS (ptS l l.length) []) from by simp [incS]; omega]
    exact ev_now _
  · intro i h ih
    have hp : ptS l (i + 1) = l[i].f0 := by unfold ptS; rw [if_neg (by omega), Nat.add_sub_cancel, hrd i h]
    rw [hp] at ih
    have wi : wrap64 ((i : Int) + 1) = ((i + 1 : Nat) : Int) := w64n h hl
    refine ev_step (fun _ => spec_GoodSamples.l0.eq_2 ..) (ev_pos (by omega) (ev_pos (by omega) (ev_pos (by omega) ?_)))
    rw [hrd i h, List.drop_eq_getElem_cons h]
    by_cases ht : 0 ≤ l[i].f0 ∧ l[i].f0 ≤ 1000000000000
    · refine ev_bind (ev_eq (isTime_yes ht).2) (ev_pos rfl ?_)
      by_cases hi : i = 0
      · subst hi
        have e : incS (ptS l 0) (l[0] :: l.drop (0 + 1)) = incS l[0].f0 (l.drop (0 + 1)) := by simp [incS, ptS, ht]; omega
        rw [e, wi]
        exact ev_neg (by omega) ih
      · have wm : wrap64 ((i : Int) - 1) = ((i - 1 : Nat) : Int) := by rw [w64 (by omega) (by omega)]; omega
        rw [wm, hrd (i - 1) (by omega)]
        refine ev_pos (by omega) (ev_pos (by omega) (ev_pos (by omega) ?_))
        have hq : ptS l i = l[i - 1].f0 := by unfold ptS; rw [if_neg hi, hrd (i - 1) (by omega)]
        rw [hq]
        by_cases hc : l[i - 1].f0 ≥ l[i].f0
        · have e : incS l[i - 1].f0 (l[i] :: l.drop (i + 1)) = false := by simp [incS]; omega
          rw [e]
          refine ev_pos hc ?_
          rw [Bool.and_false]
          exact ev_now _
        · have e : incS l[i - 1].f0 (l[i] :: l.drop (i + 1)) = incS l[i].f0 (l.drop (i + 1)) := by simp [incS, ht]; omega
          rw [e, wi]
          exact ev_neg hc ih
    · have e : incS (ptS l i) (l[i] :: l.drop (i + 1)) = false := by simp [incS]; omega
      rw [e]
      refine ev_bind (ev_eq (isTime_no ht).2) (ev_neg (by decide) ?_)
      rw [Bool.and_false]
      exact ev_now _
theorem goodSamples_impl (l : List S37) (hl : l.length ≤ 9223372036854775807) : Ev (fun k => impl_GoodSamples.f k l) (goodS l) := by
  unfold impl_GoodSamples.f goodS
  by_cases h : l.length ≤ 2000
  · rw [decide_eq_true h, Bool.true_and]
    exact ev_neg (by omega) (gs_impl l hl 0 (by omega))
  · rw [decide_eq_false h, Bool.false_and]
    exact ev_pos (by omega) (ev_now _)
theorem goodSamples_spec (l : List S37) (hl : l.length ≤ 9223372036854775807) : Ev (fun k => spec_GoodSamples.f k l) (goodS l) := by
  unfold spec_GoodSamples.f
  exact gs_spec l hl 0 (by omega)

end Go.Proofs.Ytjapdjkckhcelaa.U
namespace Go.Proofs.Ytjapdjkckhcelaa.U
open Go.RowKit Go.Proofs.Ytjapdjkckhcelaa.Pr Go.Proofs.YtjapdjkckhcelaaW.PrintWords Go.Proofs.YtjapdjkckhcelaaW.PrintLast Go.Proofs.YtjapdjkckhcelaaW.PrintMore
set_option linter.unusedVariables false
set_option linter.unusedSimpArgs false
theorem filtS_at (P : S37 → Option Bool) (p : S37 → Bool) (l : List S37) (hl : l.length ≤ 1048576) (h : ∀ x ∈ l, P x = some (p x)) : ∀ (d k i : Nat) (acc : List S37), i + d = l.length → d < k → acc.length ≤ i → impl_Sample.l0 P l k acc (i : Int) = some (acc ++ (l.drop i).filter p) := by
  have hrd : ∀ (i : Nat) (h : i < l.length), rd_T37 l (i : Int) = l[i] := fun i h => getD_lt h
  intro d
  induction d with
  | zero =>
    intro k i acc h1 h2 h3
    obtain ⟨k, rfl⟩ : ∃ m, k = m + 1 := ⟨k - 1, by omega⟩
    simp only [impl_Sample.l0]
    rw [if_neg (by omega), List.drop_eq_nil_of_le (by omega), List.filter_nil, List.append_nil]
  | succ d ih =>
    intro k i acc h1 h2 h3
    obtain ⟨k, rfl⟩ : ∃ m, k = m + 1 := ⟨k - 1, by omega⟩
    have hi : i < l.length := by omega
    have hp : P (⟨l[i].f0, l[i].f1⟩ : S37) = some (p l[i]) := h l[i] (List.getElem_mem hi)
    simp only [impl_Sample.l0]
    rw [if_pos (by omega), if_pos (by omega), hrd i hi, hp, Option.bind_some, List.drop_eq_getElem_cons hi, w64n hi (by omega)]
    by_cases hq : p l[i] = true
    · rw [if_pos hq, if_pos (by omega), List.filter_cons_of_pos hq, ih k (i + 1) _ (by omega) (by omega) (by rw [List.length_append, List.length_singleton]; omega), List.append_assoc]
      rfl
    · rw [if_neg hq, List.filter_cons_of_neg hq]
      exact ih k (i + 1) acc (by omega) (by omega) (by omega)
theorem evS_all {α : Type} (P : Nat → α → Option Bool) (p : α → Bool) : ∀ l : List α, (∀ x ∈ l, Ev (fun k => P k x) (p x)) → ∃ K, ∀ k, K ≤ k → ∀ x ∈ l, P k x = some (p x) := by
  intro l
  induction l with
  | nil => intro _; exact ⟨0, fun _ _ _ h => by cases h⟩
  | cons y l ih =>
    intro h
    obtain ⟨K, h1⟩ := ih (fun x hx => h x (List.mem_cons_of_mem _ hx))
    obtain ⟨K', h2⟩ := h y (List.mem_cons_self ..)
    refine ⟨max K K', fun k hk x hx => ?_⟩
    rcases List.mem_cons.1 hx with rfl | hx
    · exact h2 k (by omega)
    · exact h1 k (by omega) x hx
theorem filtS (P : Nat → S37 → Option Bool) (p : S37 → Bool) (l : List S37) (hl : l.length ≤ 1048576) (h : ∀ x ∈ l, Ev (fun k => P k x) (p x)) : Ev (fun k => impl_Sample.f k (P k) l) (l.filter p) := by
  obtain ⟨K, hK⟩ := evS_all P p l h
  refine ⟨max K (l.length + 1), fun k hk => ?_⟩
  exact filtS_at (P k) p l hl (hK k (by omega)) l.length k 0 [] (by omega) (by omega) (by simp)
theorem cut_spec (l : List S37) (hl : l.length ≤ 1048576) (a b : Int) : Ev (fun k => spec_l6Cut.f k l a b) (l.filter fun x => decide (x.f0 ≥ a) && decide (x.f0 ≤ b)) := by
  unfold spec_l6Cut.f
  have hrd : ∀ (i : Nat) (h : i < l.length), rd_T37 l (i : Int) = l[i] := fun i h => getD_lt h
  have key := up_ind l.length (fun i => ∀ acc : List S37, acc.length ≤ i → Ev (fun k => spec_l6Cut.l0 k a b acc l (l.length : Int) (i : Int)) (acc ++ (l.drop i).filter fun x => decide (x.f0 ≥ a) && decide (x.f0 ≤ b))) ?_ ?_ 0 (by omega) [] (by simp)
  · exact key
  · intro acc ha
    rw [List.drop_length, List.filter_nil, List.append_nil]
    exact ev_step (fun _ => spec_l6Cut.l0.eq_2 ..) (ev_neg (by omega) (ev_now _))
  · intro i h ih acc ha
    refine ev_step (fun _ => spec_l6Cut.l0.eq_2 ..) (ev_pos (by omega) (ev_pos (by omega) (ev_pos (by omega) ?_)))
    rw [hrd i h, List.drop_eq_getElem_cons h, w64n h (by omega)]
    refine ev_ite (fun h1 => ev_ite (fun h2 => ?_) (fun h2 => ?_)) (fun h1 => ?_)
    · refine ev_pos (by omega) ?_
      rw [List.filter_cons_of_pos (p := fun x : S37 => decide (x.f0 ≥ a) && decide (x.f0 ≤ b)) (by rw [decide_eq_true h1, decide_eq_true h2]; rfl)]
      have := ih (acc ++ [l[i]]) (by rw [List.length_append, List.length_singleton]; omega)
      rw [List.append_assoc] at this
      exact this
    · rw [List.filter_cons_of_neg (p := fun x : S37 => decide (x.f0 ≥ a) && decide (x.f0 ≤ b)) (by rw [decide_eq_false h2]; simp)]
      exact ih acc (by omega)
    · rw [List.filter_cons_of_neg (p := fun x : S37 => decide (x.f0 ≥ a) && decide (x.f0 ≤ b)) (by rw [decide_eq_false h1]; simp)]
      exact ih acc (by omega)
theorem cut_impl (l : List S37) (hl : l.length ≤ 1048576) (a b : Int) : Ev (fun k => impl_cut.f k l a b) (l.filter fun x => decide (x.f0 ≥ a) && decide (x.f0 ≤ b)) := by
  unfold impl_cut.f
  exact filtS _ _ l hl (fun x _ => ev_now _)
def cutL (l : List S37) (a b : Int) : List S37 := if goodS l = true then l.filter (fun x => decide (x.f0 ≥ a) && decide (x.f0 ≤ b)) else []
theorem cutL_len (l : List S37) (a b : Int) : (cutL l a b).length ≤ l.length := by
  unfold cutL
  split
  · exact List.length_filter_le ..
  · simp

end Go.Proofs.Ytjapdjkckhcelaa.U
namespace Go.Proofs.Ytjapdjkckhcelaa.U
open Go.RowKit Go.Proofs.Ytjapdjkckhcelaa.Pr Go.Proofs.YtjapdjkckhcelaaW.PrintWords Go.Proofs.YtjapdjkckhcelaaW.PrintLast Go.Proofs.YtjapdjkckhcelaaW.PrintMore
set_option linter.unusedVariables false
set_option linter.unusedSimpArgs false
theorem incS_gt : ∀ (l : List S37) (lo : Int), incS lo l = true → ∀ y ∈ l, lo < y.f0 := by
  intro l
  induction l with
  | nil => intro lo _ y hy; cases hy
  | cons x xs ih =>
    intro lo h y hy
    simp only [incS, Bool.and_eq_true, decide_eq_true_eq] at h
    rcases List.mem_cons.1 hy with rfl | hy
    · exact h.1.2
    · have := ih x.f0 h.2 y hy
      omega
theorem incS_cut (t : Int) : ∀ (l : List S37) (lo : Int), incS lo l = true → ∃ n, n ≤ l.length ∧ (l.filter fun x => decide (x.f0 ≥ 0) && decide (x.f0 ≤ t)) = l.take n ∧ (∀ i (h : i < l.length), i < n → l[i].f0 ≤ t) ∧ (∀ i (h : i < l.length), n ≤ i → t < l[i].f0) := by
  intro l
  induction l with
  | nil => intro lo _; exact ⟨0, Nat.le_refl _, rfl, fun i h => absurd h (by simp), fun i h => absurd h (by simp)⟩
  | cons x xs ih =>
    intro lo h
    have hg := incS_gt (x :: xs) lo h
    simp only [incS, Bool.and_eq_true, decide_eq_true_eq] at h
    by_cases hx : x.f0 ≤ t
    · obtain ⟨n, h1, h2, h3, h4⟩ := ih x.f0 h.2
      refine ⟨n + 1, by rw [List.length_cons]; omega, ?_, ?_, ?_⟩
      · rw [List.filter_cons_of_pos (p := fun x : S37 => decide (x.f0 ≥ 0) && decide (x.f0 ≤ t)) (by rw [decide_eq_true (show x.f0 ≥ 0 from h.1.1.1), decide_eq_true hx]; rfl), h2, List.take_succ_cons]
      · intro i hi hn
        cases i with
        | zero => exact hx
        | succ i => exact h3 i (by rw [List.length_cons] at hi; omega) (by omega)
      · intro i hi hn
        cases i with
        | zero => omega
        | succ i => exact h4 i (by rw [List.length_cons] at hi; omega) (by omega)
    · have hgt : ∀ y ∈ x :: xs, t < y.f0 := by
        intro y hy
        rcases List.mem_cons.1 hy with rfl | hy
        · omega
        · have := incS_gt xs x.f0 h.2 y hy
          omega
      refine ⟨0, Nat.zero_le _, ?_, fun i _ hn => absurd hn (by omega), fun i hi _ => hgt _ (List.getElem_mem hi)⟩
      rw [List.take_zero, List.filter_eq_nil_iff]
      intro y hy
      have := hgt y hy
      rw [decide_eq_false (show ¬ y.f0 ≤ t by omega)]
      simp
theorem search_at (l : List S37) (t : Int) (n : Nat) (h3 : ∀ i (h : i < l.length), i < n → l[i].f0 ≤ t) (h4 : ∀ i (h : i < l.length), n ≤ i → t < l[i].f0) : ∀ (k i j : Nat), i ≤ n → n ≤ j → j ≤ l.length → j - i < k → sort_Search.l0 (impl_sampleAt.P l t) k i j = some n := by
  have hrd : ∀ (i : Nat) (h : i < l.length), rd_T37 l (i : Int) = l[i] := fun i h => getD_lt h
  intro k
  induction k with
  | zero => intro i j _ _ _ h; omega
  | succ k ih =>
    intro i j h1 h2 hj h
    simp only [sort_Search.l0]
    by_cases c : i < j
    · have hm : (i + j) / 2 < l.length := by omega
      rw [if_pos c]
      unfold impl_sampleAt.P
      rw [if_pos hm, hrd _ hm, Option.bind_some]
      by_cases hb : t < l[(i + j) / 2].f0
      · rw [if_pos (decide_eq_true hb)]
        have : n ≤ (i + j) / 2 := Nat.le_of_not_lt fun hlt => by have := h3 _ hm hlt; omega
        exact ih i ((i + j) / 2) h1 this (by omega) (by omega)
      · rw [if_neg (by simpa using hb)]
        have : (i + j) / 2 < n := Nat.lt_of_not_le fun hle => hb (h4 _ hm hle)
        exact ih ((i + j) / 2 + 1) j (by omega) h2 hj (by omega)
    · rw [if_neg c, show i = n from by omega]
theorem at_two (l : List S37) (hl : l.length ≤ 1048576) (hg : goodS l = true) (t look : Int) : ∃ v, Ev (fun k => spec_l6At.f k l t look) v ∧ Ev (fun k => impl_sampleAt.f k l t look) v := by
  unfold goodS at hg
  rw [Bool.and_eq_true] at hg
  obtain ⟨n, h1, h2, h3, h4⟩ := incS_cut t l (-1) hg.2
  have hrd : ∀ (i : Nat) (h : i < l.length), rd_T37 l (i : Int) = l[i] := fun i h => getD_lt h
  have cs := cut_spec l hl 0 t
  rw [h2] at cs
  have se : Ev (fun k => sort_Search.l0 (impl_sampleAt.P l t) k 0 l.length) n := ⟨l.length + 1, fun k hk => search_at l t n h3 h4 k 0 l.length (by omega) h1 (Nat.le_refl _) (by omega)⟩
  have tl : (l.take n).length = n := by rw [List.length_take]; omega
  unfold spec_l6At.f impl_sampleAt.f
  cases n with
  | zero => exact ⟨(0, 0, false), ev_bind cs (ev_pos (by omega) (ev_now _)), ev_pos (by omega) (ev_bind se (ev_pos rfl (ev_now _)))⟩
  | succ m =>
    have hm : m < l.length := by omega
    have w1 : wrap64 (((l.take (m + 1)).length : Int) - 1) = (m : Int) := by rw [tl, w64 (by omega) (by omega)]; omega
    have w2 : ((m + 1 : Nat) : Int) - 1 = (m : Int) := by omega
    have r1 : rd_T37 (l.take (m + 1)) (m : Int) = l[m] := by
      have : m < (l.take (m + 1)).length := by omega
      refine (getD_lt this).trans ?_
      rw [List.getElem_take]
    by_cases c1 : l[m].f0 < wrap64 (t - look)
    · refine ⟨(0, 0, false), ev_bind cs (ev_neg (by omega) ?_), ev_pos (by omega) (ev_bind se (ev_neg (by omega) (ev_pos h1 ?_)))⟩
      · rw [w1, r1]; exact ev_pos (by omega) (ev_pos (by omega) (ev_pos c1 (ev_now _)))
      · rw [w2, hrd m hm]; exact ev_pos c1 (ev_now _)
    · by_cases c2 : l[m].f1 = -9223372036854775808
      · refine ⟨(0, 0, false), ev_bind cs (ev_neg (by omega) ?_), ev_pos (by omega) (ev_bind se (ev_neg (by omega) (ev_pos h1 ?_)))⟩
        · rw [w1, r1]; exact ev_pos (by omega) (ev_pos (by omega) (ev_neg c1 (ev_pos c2 (ev_now _))))
        · rw [w2, hrd m hm]; exact ev_neg c1 (ev_pos c2 (ev_now _))
      · refine ⟨(l[m].f0, l[m].f1, true), ev_bind cs (ev_neg (by omega) ?_), ev_pos (by omega) (ev_bind se (ev_neg (by omega) (ev_pos h1 ?_)))⟩
        · rw [w1, r1]; exact ev_pos (by omega) (ev_pos (by omega) (ev_neg c1 (ev_neg c2 (ev_now _))))
        · rw [w2, hrd m hm]; exact ev_neg c1 (ev_neg c2 (ev_now _))

end Go.Proofs.Ytjapdjkckhcelaa.U
