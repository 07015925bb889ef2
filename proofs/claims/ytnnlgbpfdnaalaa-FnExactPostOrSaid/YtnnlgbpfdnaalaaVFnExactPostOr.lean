/- Plain lemmas over the printed functions, for the law FnExactPostOr; each theorem states its own conditions. -/
import Derived.Test.YtnnlgbpfdnaalaaPrx0
import Derived.Test.YtnnlgbpfdnaalaaPrxg7a97fn1
import Derived.Test.YtnnlgbpfdnaalaaPrxga2f4en1
import Derived.Test.YtnnlgbpfdnaalaaPrxgbb143n1
namespace Go.Proofs.Ytnnlgbpfdnaalaa.U
open Go.RowKit Go.Proofs.Ytnnlgbpfdnaalaa.Pr Go.Proofs.YtnnlgbpfdnaalaaW.PrintWords Go.Proofs.YtnnlgbpfdnaalaaW.PrintLast Go.Proofs.YtnnlgbpfdnaalaaW.PrintMore
set_option linter.unusedVariables false
set_option linter.unusedSimpArgs false
/-! Words for plain proofs over the printed functions: from some number of rounds on; loops that go up; ranges. -/
theorem w64 {x : Int} (h0 : -9223372036854775808 ≤ x) (h1 : x ≤ 9223372036854775807) : wrap64 x = x := by unfold wrap64; omega
theorem w64n {i n : Nat} (h : i < n) (hn : n ≤ 9223372036854775807) : wrap64 ((i : Int) + 1) = ((i + 1 : Nat) : Int) := by unfold wrap64; omega
theorem ev_now {α : Type} (r : α) : Ev (fun _ => some r) r := Ev.now r
theorem ev_pos {α : Type} {c : Prop} [Decidable c] {a b : Nat → Option α} {r : α} (h : c) (e : Ev a r) : Ev (fun k => if c then a k else b k) r := by
  obtain ⟨K, e⟩ := e
  exact ⟨K, fun k hk => (if_pos h).trans (e k hk)⟩
theorem ev_neg {α : Type} {c : Prop} [Decidable c] {a b : Nat → Option α} {r : α} (h : ¬ c) (e : Ev b r) : Ev (fun k => if c then a k else b k) r := by
  obtain ⟨K, e⟩ := e
  exact ⟨K, fun k hk => (if_neg h).trans (e k hk)⟩
theorem ev_ite {α : Type} {c : Prop} [Decidable c] {a b : Nat → Option α} {r : α} (h : c → Ev a r) (h' : ¬ c → Ev b r) : Ev (fun k => if c then a k else b k) r := by
  by_cases hc : c
  · exact ev_pos hc (h hc)
  · exact ev_neg hc (h' hc)
theorem ev_bind {α β : Type} {g : Nat → Option α} {f : Nat → α → Option β} {a : α} {r : β} (h : Ev g a) (k : Ev (fun n => f n a) r) : Ev (fun n => (g n).bind (f n)) r := Ev.bind h k
theorem ev_some {α β : Type} {f : Nat → α → Option β} {a : α} {r : β} (k : Ev (fun n => f n a) r) : Ev (fun n => (some a).bind (f n)) r := Ev.bind (Ev.now a) k
theorem ev_step {α : Type} {g f : Nat → Option α} {r : α} (h : ∀ k, g (k + 1) = f k) (k : Ev f r) : Ev g r := Ev.step h k
/-- What holds at the end and goes down a round, holds at each round. -/
theorem up_ind (n : Nat) (Q : Nat → Prop) (done : Q n) (step : ∀ i, i < n → Q (i + 1) → Q i) : ∀ i, i ≤ n → Q i := by
  have key : ∀ d i, i + d = n → Q i := by
    intro d
    induction d with
    | zero =>
      intro i h
      have e : i = n := by omega
      rw [e]
      exact done
    | succ d ih => intro i h; exact step i (by omega) (ih (i + 1) (by omega))
  exact fun i h => key (n - i) i (by omega)
theorem getD_lt {α : Type} {l : List α} {d : α} {i : Nat} (h : i < l.length) : l.getD ((i : Int).toNat) d = l[i] := by
  rw [Int.toNat_natCast, List.getD_eq_getElem?_getD, List.getElem?_eq_getElem h]
  rfl
theorem rd_at {l : List Int} {i : Nat} (h : i < l.length) : rd l (i : Int) = l[i] := getD_lt h
/-- A loop that writes a row anew, element by element. -/
theorem ev_copy {α β : Type} (F : Nat → List β → Int → Option (List β)) (cv : α → β) (l : List α) (x : List β) (hx : x.length = l.length)
    (step : ∀ (i : Nat) (h : i < l.length) (y r : List β), y.length = l.length → Ev (fun k => F k (y.set i (cv l[i])) ((i + 1 : Nat) : Int)) r → Ev (fun k => F k y (i : Int)) r)
    (done : ∀ y : List β, y.length = l.length → Ev (fun k => F k y (l.length : Int)) y) : Ev (fun k => F k x 0) (l.map cv) := by
  refine up_ind l.length (fun i => ∀ y : List β, y.length = l.length → (∀ j, j < i → y[j]? = (l.map cv)[j]?) → Ev (fun k => F k y (i : Int)) (l.map cv)) ?_ ?_ 0 (by omega) x hx (fun j hj => by omega)
  · intro y hy h
    have e : y = l.map cv := by
      apply List.ext_getElem?
      intro j
      by_cases hj : j < l.length
      · exact h j hj
      · rw [List.getElem?_eq_none (by omega), List.getElem?_eq_none (by simp; omega)]
    have d := done y hy
    rw [e] at d ⊢
    exact d
  · intro i hi ih y hy h
    refine step i hi y _ hy (ih _ (by simp [hy]) (fun j hj => ?_))
    by_cases e : j = i
    · subst e
      rw [List.getElem?_set_self (by omega), List.getElem?_map, List.getElem?_eq_getElem hi]
      rfl
    · rw [List.getElem?_set_ne (Ne.symm e)]
      exact h j (by omega)
end Go.Proofs.Ytnnlgbpfdnaalaa.U
namespace Go.Proofs.Ytnnlgbpfdnaalaa.U
open Go.RowKit Go.Proofs.Ytnnlgbpfdnaalaa.Pr Go.Proofs.YtnnlgbpfdnaalaaW.PrintWords Go.Proofs.YtnnlgbpfdnaalaaW.PrintLast Go.Proofs.YtnnlgbpfdnaalaaW.PrintMore
set_option linter.unusedVariables false
set_option linter.unusedSimpArgs false
def rz (l : List Int) : Bool := decide (l.Pairwise (· < ·))
def nb (l : List Int) : Bool := rz l && decide (l.length ≤ 1000)
theorem pw_of_adj (l : List Int) (h : ∀ i (h : i + 1 < l.length), l[i] < l[i + 1]) : l.Pairwise (· < ·) := by
  rw [List.pairwise_iff_getElem]
  intro i j hi hj hij
  obtain ⟨d, rfl⟩ : ∃ d, j = i + 1 + d := ⟨j - (i + 1), by omega⟩
  induction d with
  | zero => exact h i hj
  | succ d ih => exact Int.lt_trans (ih (by omega) (by omega)) (h (i + 1 + d) hj)
theorem adj_bad (l : List Int) (h : ¬ l.Pairwise (· < ·)) : ∃ i, ∃ h : i + 1 < l.length, ¬ l[i] < l[i + 1] := by
  apply Classical.byContradiction
  intro hn
  exact h (pw_of_adj l (fun i hi => Classical.byContradiction (fun h2 => hn ⟨i, hi, h2⟩)))
theorem pw_adj (l : List Int) (h : l.Pairwise (· < ·)) (i : Nat) (hi : i + 1 < l.length) : l[i] < l[i + 1] := (List.pairwise_iff_getElem.1 h) i (i + 1) (by omega) hi (by omega)
theorem w64p {i n : Nat} (h0 : 0 < i) (h : i ≤ n) (hn : n ≤ 9223372036854775807) : wrap64 ((i : Int) - 1) = ((i - 1 : Nat) : Int) := by unfold wrap64; omega
theorem nums_step (l : List Int) (hl : l.length ≤ 1048576) (r : Bool) (i : Nat) (h : i < l.length) (hf : ∀ h0 : 0 < i, ¬ l[i - 1] < l[i] → r = false) (hn : (∀ h0 : 0 < i, l[i - 1] < l[i]) → Ev (fun k => spec_l9Numbers.l0 k l (l.length : Int) ((i + 1 : Nat) : Int)) r) : Ev (fun k => spec_l9Numbers.l0 k l (l.length : Int) (i : Int)) r := by
  refine ev_step (fun _ => spec_l9Numbers.l0.eq_2 ..) (ev_pos (by omega) (ev_ite (fun h0 => ?_) (fun h0 => ?_)))
  · have hi : 0 < i := by omega
    rw [w64p hi (Nat.le_of_lt h) (by omega)]
    refine ev_pos (by omega) (ev_pos (by omega) (ev_pos (by omega) (ev_pos (by omega) ?_)))
    rw [rd_at (show i - 1 < l.length by omega), rd_at h, w64n h (by omega)]
    refine ev_ite (fun h1 => ?_) (fun h1 => ?_)
    · rw [hf hi (by omega)]
      exact ev_now _
    · exact hn (fun _ => by omega)
  · rw [w64n h (by omega)]
    exact hn (fun h2 => absurd h2 (by omega))
theorem nums_spec (l : List Int) (hl : l.length ≤ 1048576) : Ev (fun k => spec_l9Numbers.f k l) (nb l) := by
  unfold spec_l9Numbers.f nb rz
  by_cases hp : l.Pairwise (· < ·)
  · rw [decide_eq_true hp, Bool.true_and]
    refine up_ind l.length (fun i => Ev (fun k => spec_l9Numbers.l0 k l (l.length : Int) (i : Int)) (decide (l.length ≤ 1000))) ?_ ?_ 0 (by omega)
    · refine ev_step (fun _ => spec_l9Numbers.l0.eq_2 ..) (ev_neg (by omega) ?_)
      rw [show decide (l.length ≤ 1000) = decide ((l.length : Int) ≤ 1000) from decide_eq_decide.2 (by omega)]
      exact ev_now _
    · intro i h ih
      refine nums_step l hl _ i h (fun h0 h1 => absurd (pw_adj l hp (i - 1) (by omega)) ?_) (fun _ => ih)
      have e : i - 1 + 1 = i := by omega
      simp only [e]
      exact h1
  · rw [decide_eq_false hp, Bool.false_and]
    obtain ⟨j, hj, hb⟩ := adj_bad l hp
    refine up_ind (j + 1) (fun i => Ev (fun k => spec_l9Numbers.l0 k l (l.length : Int) (i : Int)) false) ?_ ?_ 0 (by omega)
    · exact nums_step l hl _ (j + 1) hj (fun _ _ => rfl) (fun h => absurd (h (by omega)) hb)
    · intro i h ih
      exact nums_step l hl _ i (by omega) (fun _ _ => rfl) (fun _ => ih)
theorem ris_step (l : List Int) (hl : l.length ≤ 1048576) (r : Bool) (i : Nat) (h0 : 0 < i) (h : i < l.length) (hf : ¬ l[i - 1] < l[i] → r = false) (hn : l[i - 1] < l[i] → Ev (fun k => impl_rising_int.l0 k l ((i + 1 : Nat) : Int)) r) : Ev (fun k => impl_rising_int.l0 k l (i : Int)) r := by
  refine ev_step (fun _ => impl_rising_int.l0.eq_2 ..) (ev_pos (by omega) ?_)
  rw [w64p h0 (Nat.le_of_lt h) (by omega)]
  refine ev_pos (by omega) (ev_pos (by omega) (ev_pos (by omega) ?_))
  rw [rd_at (show i - 1 < l.length by omega), rd_at h, w64n h (by omega)]
  refine ev_ite (fun h1 => ?_) (fun h1 => ?_)
  · rw [hf (by omega)]
    exact ev_now _
  · exact hn (by omega)
theorem ris_impl (l : List Int) (hl : l.length ≤ 1048576) : Ev (fun k => impl_rising_int.f k l) (rz l) := by
  unfold impl_rising_int.f rz
  by_cases hz : l.length = 0
  · obtain rfl := List.eq_nil_of_length_eq_zero hz
    exact ev_step (fun _ => impl_rising_int.l0.eq_2 ..) (ev_neg (by simp) (ev_now _))
  by_cases hp : l.Pairwise (· < ·)
  · rw [decide_eq_true hp]
    have := up_ind l.length (fun i => 0 < i → Ev (fun k => impl_rising_int.l0 k l (i : Int)) true) ?_ ?_ 1 (by omega) (by omega)
    · exact this
    · exact fun _ => ev_step (fun _ => impl_rising_int.l0.eq_2 ..) (ev_neg (by omega) (ev_now _))
    · intro i h ih h0
      refine ris_step l hl _ i h0 h (fun h1 => absurd (pw_adj l hp (i - 1) (by omega)) ?_) (fun _ => ih (by omega))
      have e : i - 1 + 1 = i := by omega
      simp only [e]
      exact h1
  · rw [decide_eq_false hp]
    obtain ⟨j, hj, hb⟩ := adj_bad l hp
    have := up_ind (j + 1) (fun i => 0 < i → Ev (fun k => impl_rising_int.l0 k l (i : Int)) false) ?_ ?_ 1 (by omega) (by omega)
    · exact this
    · exact fun _ => ris_step l hl _ (j + 1) (by omega) hj (fun _ => rfl) (fun h => absurd h hb)
    · intro i h ih h0
      exact ris_step l hl _ i h0 (by omega) (fun _ => rfl) (fun _ => ih (by omega))
theorem filt_impl (p : Int → Bool) (l : List Int) (hl : l.length ≤ 1048576) : Ev (fun k => impl_filter_int.f k (fun x => some (p x)) l) (l.filter p) := by
  unfold impl_filter_int.f
  have key := up_ind l.length (fun i => ∀ acc : List Int, acc.length ≤ i → Ev (fun k => impl_filter_int.l0 (fun x => some (p x)) l k acc (i : Int)) (acc ++ (l.drop i).filter p)) ?_ ?_ 0 (by omega) [] (by simp)
  · exact key
  · intro acc ha
    rw [List.drop_length, List.filter_nil, List.append_nil]
    exact ev_step (fun _ => impl_filter_int.l0.eq_2 ..) (ev_neg (by omega) (ev_now _))
  · intro i h ih acc ha
    refine ev_step (fun _ => impl_filter_int.l0.eq_2 ..) (ev_pos (by omega) (ev_pos (by omega) ?_))
    rw [rd_at h, List.drop_eq_getElem_cons h, w64n h (by omega)]
    refine ev_some (ev_ite (fun h1 => ?_) (fun h1 => ?_))
    · refine ev_pos (by omega) ?_
      rw [List.filter_cons_of_pos h1]
      have := ih (acc ++ [l[i]]) (by rw [List.length_append, List.length_singleton]; omega)
      rw [List.append_assoc] at this
      exact this
    · rw [List.filter_cons_of_neg h1]
      exact ih acc (by omega)
theorem cmp_props (d : List Int) (hs : d.Pairwise (· ≤ ·)) : (Go.Lib.compact d).Pairwise (· < ·) ∧ ∀ x, x ∈ Go.Lib.compact d ↔ x ∈ d := by
  have hg := List.pairwise_iff_getElem.1 hs
  have hb : ∀ m (h : m < d.length), d.toArray[m]! = d[m] := fun m h => by simp [getElem!_pos, h]
  have key : ∀ m, m ≤ d.length → (Go.Lib.compactUpTo d.toArray m).Pairwise (· < ·) ∧ ∀ x, x ∈ Go.Lib.compactUpTo d.toArray m ↔ ∃ j, ∃ h : j < d.length, j < m ∧ d[j] = x := by
    intro m
    induction m with
    | zero =>
      intro _
      have e0 : Go.Lib.compactUpTo d.toArray 0 = [] := by simp [Go.Lib.compactUpTo]
      rw [e0]
      exact ⟨List.Pairwise.nil, fun x => ⟨fun h => absurd h (by simp), fun ⟨j, _, h, _⟩ => absurd h (by omega)⟩⟩
    | succ m ih =>
      intro hm
      obtain ⟨i1, i2⟩ := ih (by omega)
      rw [Go.Lib.compactUpTo_succ]
      by_cases hk : Go.Lib.keeps d.toArray m = true
      · rw [if_pos hk, hb m (by omega)]
        have hk2 : m = 0 ∨ d.toArray[m]! ≠ d.toArray[m - 1]! := by simpa [Go.Lib.keeps] using hk
        refine ⟨List.pairwise_append.2 ⟨i1, List.pairwise_singleton _ _, fun x hx y hy => ?_⟩, fun x => ?_⟩
        · rw [List.mem_singleton] at hy
          subst hy
          obtain ⟨j, hj, hjm, rfl⟩ := (i2 x).1 hx
          rcases hk2 with h0 | h0
          · omega
          · rw [hb m (by omega), hb (m - 1) (by omega)] at h0
            have h1 := hg (m - 1) m (by omega) (by omega) (by omega)
            by_cases hj1 : j = m - 1
            · subst hj1
              omega
            · have h2 := hg j (m - 1) hj (by omega) (by omega)
              omega
        · rw [List.mem_append, i2, List.mem_singleton]
          constructor
          · rintro (⟨j, hj, hjm, e⟩ | e)
            · exact ⟨j, hj, by omega, e⟩
            · exact ⟨m, by omega, by omega, e.symm⟩
          · rintro ⟨j, hj, hjm, e⟩
            by_cases hjm2 : j = m
            · subst hjm2
              exact .inr e.symm
            · exact .inl ⟨j, hj, by omega, e⟩
      · rw [if_neg hk, List.append_nil]
        have hk2 : ¬ (m = 0 ∨ d.toArray[m]! ≠ d.toArray[m - 1]!) := by simpa [Go.Lib.keeps] using hk
        have h0 : m ≠ 0 := fun e => hk2 (.inl e)
        have h1 : d.toArray[m]! = d.toArray[m - 1]! := Classical.byContradiction fun e => hk2 (.inr e)
        rw [hb m (by omega), hb (m - 1) (by omega)] at h1
        refine ⟨i1, fun x => ?_⟩
        rw [i2]
        constructor
        · rintro ⟨j, hj, hjm, e⟩
          exact ⟨j, hj, by omega, e⟩
        · rintro ⟨j, hj, hjm, e⟩
          by_cases hjm2 : j = m
          · subst hjm2
            exact ⟨j - 1, by omega, by omega, by rw [← h1]; exact e⟩
          · exact ⟨j, hj, by omega, e⟩
  obtain ⟨k1, k2⟩ := key d.length (Nat.le_refl _)
  refine ⟨k1, fun x => ?_⟩
  show x ∈ Go.Lib.compactUpTo d.toArray d.length ↔ _
  rw [k2, List.mem_iff_getElem]
  exact ⟨fun ⟨j, hj, _, e⟩ => ⟨j, hj, e⟩, fun ⟨j, hj, e⟩ => ⟨j, hj, hj, e⟩⟩
theorem srt_eq : ∀ (a b : List Int), a.Pairwise (· < ·) → b.Pairwise (· < ·) → (∀ x, x ∈ a ↔ x ∈ b) → a = b
  | [], [], _, _, _ => rfl
  | [], y :: b, _, _, h => absurd ((h y).2 List.mem_cons_self) (by simp)
  | x :: a, [], _, _, h => absurd ((h x).1 List.mem_cons_self) (by simp)
  | x :: a, y :: b, ha, hb, h => by
    obtain ⟨ha1, ha2⟩ := List.pairwise_cons.1 ha
    obtain ⟨hb1, hb2⟩ := List.pairwise_cons.1 hb
    have e : x = y := by
      have h1 := List.mem_cons.1 ((h x).1 List.mem_cons_self)
      have h2 := List.mem_cons.1 ((h y).2 List.mem_cons_self)
      rcases h1 with h1 | h1
      · exact h1
      · rcases h2 with h2 | h2
        · exact h2.symm
        · have := hb1 x h1
          have := ha1 y h2
          omega
    subst e
    rw [srt_eq a b ha2 hb2 (fun z => ⟨fun hz => ?_, fun hz => ?_⟩)]
    · rcases List.mem_cons.1 ((h z).1 (List.mem_cons_of_mem _ hz)) with e | e
      · have := ha1 z hz
        omega
      · exact e
    · rcases List.mem_cons.1 ((h z).2 (List.mem_cons_of_mem _ hz)) with e | e
      · have := hb1 z hz
        omega
      · exact e
def cm (a b : List Int) : List Int := Go.Lib.compact ((a ++ b).mergeSort fun x y => decide (x ≤ y))
theorem cm_props (a b : List Int) : (cm a b).Pairwise (· < ·) ∧ ∀ x, x ∈ cm a b ↔ x ∈ a ∨ x ∈ b := by
  have hs : ((a ++ b).mergeSort fun x y => decide (x ≤ y)).Pairwise (· ≤ ·) := by
    have := List.pairwise_mergeSort (le := fun x y : Int => decide (x ≤ y)) (fun x y z h1 h2 => by simp at *; omega) (fun x y => by simp; omega) (a ++ b)
    simpa using this
  obtain ⟨h1, h2⟩ := cmp_props _ hs
  exact ⟨h1, fun x => by rw [cm, h2, List.mem_mergeSort, List.mem_append]⟩
def post (T : Bool → Bool → Bool) (a b : List Int) : List Int := if nb a && nb b then (cm a b).filter fun x => T (decide (x ∈ a)) (decide (x ∈ b)) else []
theorem le_of_lt_pw (l : List Int) (h : l.Pairwise (· < ·)) : l.Pairwise (· ≤ ·) := h.imp (fun h => Int.le_of_lt h)
theorem posts_impl (T : Bool → Bool → Bool) (a b : List Int) (ha : a.length ≤ 1048576) (hb : b.length ≤ 1048576) : Ev (fun k => impl_posts.f k T a b) (post T a b) := by
  unfold impl_posts.f post nb
  refine ev_ite (fun h1 => ?_) (fun h1 => ?_)
  · rw [decide_eq_false (show ¬ a.length ≤ 1000 by omega), Bool.and_false, Bool.false_and, if_neg (by decide)]
    exact ev_now _
  refine ev_ite (fun h2 => ?_) (fun h2 => ?_)
  · rw [decide_eq_false (show ¬ b.length ≤ 1000 by omega), Bool.and_false, Bool.and_false, if_neg (by decide)]
    exact ev_now _
  rw [decide_eq_true (show a.length ≤ 1000 by omega), decide_eq_true (show b.length ≤ 1000 by omega), Bool.and_true, Bool.and_true]
  refine ev_bind (ris_impl a ha) (ev_ite (fun h3 => ?_) (fun h3 => ?_))
  · rw [h3, Bool.false_and, if_neg (by decide)]
    exact ev_now _
  refine ev_bind (ris_impl b hb) (ev_ite (fun h4 => ?_) (fun h4 => ?_))
  · rw [h4, Bool.and_false, if_neg (by decide)]
    exact ev_now _
  have e3 : rz a = true := by simpa using h3
  have e4 : rz b = true := by simpa using h4
  rw [e3, e4, Bool.and_true, if_pos rfl]
  refine ev_pos ⟨le_of_lt_pw a (of_decide_eq_true e3), le_of_lt_pw b (of_decide_eq_true e4)⟩ ?_
  refine filt_impl (fun x => T (decide (x ∈ a)) (decide (x ∈ b))) (cm a b) ?_
  have h5 := Go.Lib.compact_length_le ((a ++ b).mergeSort fun x y => decide (x ≤ y))
  rw [List.length_mergeSort, List.length_append] at h5
  unfold cm
  omega
theorem nb_pw {l : List Int} (h : nb l = true) : l.Pairwise (· < ·) := of_decide_eq_true (Bool.and_eq_true_iff.1 h).1
theorem post_eq (T : Bool → Bool → Bool) (a b r : List Int) (h : (nb a && nb b) = true) (hr : r.Pairwise (· < ·)) (hm : ∀ x, x ∈ r ↔ (x ∈ a ∨ x ∈ b) ∧ T (decide (x ∈ a)) (decide (x ∈ b)) = true) : post T a b = r := by
  unfold post
  rw [if_pos h]
  obtain ⟨h1, h2⟩ := cm_props a b
  refine srt_eq _ _ (h1.filter _) hr (fun x => ?_)
  rw [List.mem_filter, h2, hm]
theorem post_len (T : Bool → Bool → Bool) (a b : List Int) : (post T a b).length ≤ 2000 := by
  unfold post
  split
  · rename_i h
    have h1 := Go.Lib.compact_length_le ((a ++ b).mergeSort fun x y => decide (x ≤ y))
    rw [List.length_mergeSort, List.length_append] at h1
    have h2 := of_decide_eq_true (Bool.and_eq_true_iff.1 (Bool.and_eq_true_iff.1 h).1).2
    have h3 := of_decide_eq_true (Bool.and_eq_true_iff.1 (Bool.and_eq_true_iff.1 h).2).2
    have h4 := List.length_filter_le (fun x => T (decide (x ∈ a)) (decide (x ∈ b))) (cm a b)
    unfold cm at h4
    unfold cm
    omega
  · simp
end Go.Proofs.Ytnnlgbpfdnaalaa.U
namespace Go.Proofs.Ytnnlgbpfdnaalaa.U
open Go.RowKit Go.Proofs.Ytnnlgbpfdnaalaa.Pr Go.Proofs.YtnnlgbpfdnaalaaW.PrintWords Go.Proofs.YtnnlgbpfdnaalaaW.PrintLast Go.Proofs.YtnnlgbpfdnaalaaW.PrintMore
set_option linter.unusedVariables false
set_option linter.unusedSimpArgs false
theorem or_loop (a b : List Int) (ha : a.length ≤ 1048576) (hb : b.length ≤ 1048576) (pa : a.Pairwise (· < ·)) (pb : b.Pairwise (· < ·)) : ∀ (d i j : Nat), (a.length - i) + (b.length - j) = d → i ≤ a.length → j ≤ b.length →
    ∃ r : List Int, r.Pairwise (· < ·) ∧ (∀ x, x ∈ r ↔ x ∈ a.drop i ∨ x ∈ b.drop j) ∧ ∀ acc : List Int, acc.length ≤ i + j → Ev (fun k => spec_PostOr.l0 k a b acc (i : Int) (j : Int)) (acc ++ r) := by
  intro d
  induction d using Nat.strongRecOn with
  | _ d ih =>
  intro i j hd hi hj
  have dr : ∀ {l : List Int} (h : l.Pairwise (· < ·)) (i : Nat) (hi : i < l.length) (x : Int), x ∈ l.drop (i + 1) → l[i] < x := fun {l} h i hi x hx => by
    have := h.sublist (List.drop_sublist i l)
    rw [List.drop_eq_getElem_cons hi] at this
    exact (List.pairwise_cons.1 this).1 x hx
  have dl : ∀ {l : List Int} (h : l.Pairwise (· < ·)) (i : Nat) (hi : i < l.length) (x : Int), x ∈ l.drop i → l[i] ≤ x := fun {l} h i hi x hx => by
    rw [List.drop_eq_getElem_cons hi] at hx
    rcases List.mem_cons.1 hx with e | e
    · exact Int.le_of_eq e.symm
    · exact Int.le_of_lt (dr h i hi x e)
  by_cases h1 : i < a.length
  · by_cases h2 : j < b.length
    · by_cases h3 : a[i] ≤ b[j]
      · by_cases h4 : a[i] = b[j]
        · obtain ⟨r, r1, r2, r3⟩ := ih ((a.length - (i + 1)) + (b.length - (j + 1))) (by omega) (i + 1) (j + 1) rfl (by omega) (by omega)
          refine ⟨a[i] :: r, List.pairwise_cons.2 ⟨fun x hx => ?_, r1⟩, fun x => ?_, fun acc hacc => ?_⟩
          · rcases (r2 x).1 hx with e | e
            · exact dr pa i h1 x e
            · rw [h4]; exact dr pb j h2 x e
          · rw [List.mem_cons, r2, List.drop_eq_getElem_cons h1, List.drop_eq_getElem_cons h2, List.mem_cons, List.mem_cons, ← h4]
            constructor
            · rintro (e | e | e)
              · exact .inl (.inl e)
              · exact .inl (.inr e)
              · exact .inr (.inr e)
            · rintro ((e | e) | (e | e))
              · exact .inl e
              · exact .inr (.inl e)
              · exact .inl e
              · exact .inr (.inr e)
          · refine ev_step (fun _ => spec_PostOr.l0.eq_2 ..) (ev_pos (by omega) (ev_step (fun _ => spec_PostOr.j2.eq_2 ..) (ev_pos rfl (ev_neg (by omega) (ev_pos (by omega) (ev_pos (by omega) (ev_pos (by omega) (ev_pos (by omega) ?_))))))))
            rw [rd_at h1, rd_at h2, decide_eq_true h3]
            refine ev_step (fun _ => spec_PostOr.j3.eq_2 ..) (ev_pos rfl (ev_pos (by omega) (ev_pos (by omega) (ev_pos (by omega) (ev_pos (by omega) ?_)))))
            rw [rd_at h1, rd_at h2, w64n h1 (by omega), w64n h2 (by omega)]
            refine ev_pos h4 (ev_pos (by omega) ?_)
            have := r3 (acc ++ [a[i]]) (by rw [List.length_append, List.length_singleton]; omega)
            rwa [List.append_assoc] at this
        · obtain ⟨r, r1, r2, r3⟩ := ih ((a.length - (i + 1)) + (b.length - j)) (by omega) (i + 1) j rfl (by omega) (by omega)
          refine ⟨a[i] :: r, List.pairwise_cons.2 ⟨fun x hx => ?_, r1⟩, fun x => ?_, fun acc hacc => ?_⟩
          · rcases (r2 x).1 hx with e | e
            · exact dr pa i h1 x e
            · have := dl pb j h2 x e; omega
          · rw [List.mem_cons, r2, List.drop_eq_getElem_cons h1, List.mem_cons, or_assoc]
          · refine ev_step (fun _ => spec_PostOr.l0.eq_2 ..) (ev_pos (by omega) (ev_step (fun _ => spec_PostOr.j2.eq_2 ..) (ev_pos rfl (ev_neg (by omega) (ev_pos (by omega) (ev_pos (by omega) (ev_pos (by omega) (ev_pos (by omega) ?_))))))))
            rw [rd_at h1, rd_at h2, decide_eq_true h3]
            refine ev_step (fun _ => spec_PostOr.j3.eq_2 ..) (ev_pos rfl (ev_pos (by omega) (ev_pos (by omega) (ev_pos (by omega) (ev_pos (by omega) ?_)))))
            rw [rd_at h1, rd_at h2, w64n h1 (by omega)]
            refine ev_neg h4 (ev_pos (by omega) ?_)
            have := r3 (acc ++ [a[i]]) (by rw [List.length_append, List.length_singleton]; omega)
            rwa [List.append_assoc] at this
      · obtain ⟨r, r1, r2, r3⟩ := ih ((a.length - i) + (b.length - (j + 1))) (by omega) i (j + 1) rfl (by omega) (by omega)
        refine ⟨b[j] :: r, List.pairwise_cons.2 ⟨fun x hx => ?_, r1⟩, fun x => ?_, fun acc hacc => ?_⟩
        · rcases (r2 x).1 hx with e | e
          · have := dl pa i h1 x e; omega
          · exact dr pb j h2 x e
        · rw [List.mem_cons, r2, List.drop_eq_getElem_cons h2, List.mem_cons]
          exact or_left_comm
        · refine ev_step (fun _ => spec_PostOr.l0.eq_2 ..) (ev_pos (by omega) (ev_step (fun _ => spec_PostOr.j2.eq_2 ..) (ev_pos rfl (ev_neg (by omega) (ev_pos (by omega) (ev_pos (by omega) (ev_pos (by omega) (ev_pos (by omega) ?_))))))))
          rw [rd_at h1, rd_at h2, decide_eq_false h3]
          refine ev_step (fun _ => spec_PostOr.j3.eq_2 ..) (ev_neg (by decide) (ev_pos (by omega) (ev_pos (by omega) ?_)))
          rw [rd_at h2, w64n h2 (by omega)]
          refine ev_pos (by omega) ?_
          have := r3 (acc ++ [b[j]]) (by rw [List.length_append, List.length_singleton]; omega)
          rwa [List.append_assoc] at this
    · obtain ⟨r, r1, r2, r3⟩ := ih ((a.length - (i + 1)) + (b.length - j)) (by omega) (i + 1) j rfl (by omega) (by omega)
      have e0 : b.drop j = [] := by rw [show j = b.length by omega]; exact List.drop_length
      rw [e0] at r2 ⊢
      refine ⟨a[i] :: r, List.pairwise_cons.2 ⟨fun x hx => ?_, r1⟩, fun x => ?_, fun acc hacc => ?_⟩
      · rcases (r2 x).1 hx with e | e
        · exact dr pa i h1 x e
        · cases e
      · rw [List.mem_cons, r2, List.drop_eq_getElem_cons h1, List.mem_cons, or_assoc]
      · refine ev_step (fun _ => spec_PostOr.l0.eq_2 ..) (ev_pos (by omega) (ev_step (fun _ => spec_PostOr.j2.eq_2 ..) (ev_pos rfl (ev_pos (by omega) (ev_step (fun _ => spec_PostOr.j3.eq_2 ..) (ev_pos rfl (ev_neg (by omega) (ev_pos (by omega) (ev_pos (by omega) ?_)))))))))
        rw [rd_at h1, w64n h1 (by omega)]
        refine ev_pos (by omega) ?_
        have := r3 (acc ++ [a[i]]) (by rw [List.length_append, List.length_singleton]; omega)
        rwa [List.append_assoc] at this
  · have e1 : a.drop i = [] := by rw [show i = a.length by omega]; exact List.drop_length
    by_cases h2 : j < b.length
    · obtain ⟨r, r1, r2, r3⟩ := ih ((a.length - i) + (b.length - (j + 1))) (by omega) i (j + 1) rfl (by omega) (by omega)
      rw [e1] at r2 ⊢
      refine ⟨b[j] :: r, List.pairwise_cons.2 ⟨fun x hx => ?_, r1⟩, fun x => ?_, fun acc hacc => ?_⟩
      · rcases (r2 x).1 hx with e | e
        · cases e
        · exact dr pb j h2 x e
      · rw [List.mem_cons, r2, List.drop_eq_getElem_cons h2, List.mem_cons]
        exact or_left_comm
      · refine ev_step (fun _ => spec_PostOr.l0.eq_2 ..) (ev_neg (by omega) ?_)
        rw [decide_eq_true (show (j : Int) < (b.length : Int) by omega)]
        refine ev_step (fun _ => spec_PostOr.j2.eq_2 ..) (ev_pos rfl (ev_neg (by omega) (ev_neg (by omega) (ev_step (fun _ => spec_PostOr.j3.eq_2 ..) (ev_neg (by decide) (ev_pos (by omega) (ev_pos (by omega) ?_)))))))
        rw [rd_at h2, w64n h2 (by omega)]
        refine ev_pos (by omega) ?_
        have := r3 (acc ++ [b[j]]) (by rw [List.length_append, List.length_singleton]; omega)
        rwa [List.append_assoc] at this
    · have e2 : b.drop j = [] := by rw [show j = b.length by omega]; exact List.drop_length
      rw [e1, e2]
      refine ⟨[], List.Pairwise.nil, fun x => by simp, fun acc hacc => ?_⟩
      rw [List.append_nil]
      refine ev_step (fun _ => spec_PostOr.l0.eq_2 ..) (ev_neg (by omega) ?_)
      rw [decide_eq_false (show ¬ (j : Int) < (b.length : Int) by omega)]
      exact ev_step (fun _ => spec_PostOr.j2.eq_2 ..) (ev_neg (by decide) (ev_now _))
theorem or_spec (a b : List Int) (ha : a.length ≤ 1048576) (hb : b.length ≤ 1048576) : Ev (fun k => spec_PostOr.f k a b) (post (fun _ _ => true) a b) := by
  unfold spec_PostOr.f
  cases h1 : nb a with
  | false =>
    refine ev_bind (nums_spec a ha) (ev_neg (by rw [h1]; decide) (ev_step (fun _ => spec_PostOr.j0.eq_2 ..) (ev_pos rfl ?_)))
    unfold post
    rw [h1, Bool.false_and, if_neg (by decide)]
    exact ev_now _
  | true =>
    refine ev_bind (nums_spec a ha) (ev_pos h1 (ev_bind (nums_spec b hb) (ev_step (fun _ => spec_PostOr.j0.eq_2 ..) ?_)))
    cases h2 : nb b with
    | false =>
      refine ev_pos rfl ?_
      unfold post
      rw [h1, h2, if_neg (by decide)]
      exact ev_now _
    | true =>
      refine ev_neg (by decide) ?_
      obtain ⟨r, r1, r2, r3⟩ := or_loop a b ha hb (nb_pw h1) (nb_pw h2) _ 0 0 rfl (by omega) (by omega)
      rw [post_eq _ a b r (by rw [h1, h2]; rfl) r1 (fun x => by rw [r2, List.drop_zero, List.drop_zero]; simp)]
      exact r3 [] (by simp)
end Go.Proofs.Ytnnlgbpfdnaalaa.U
namespace Go.Proofs.Ytnnlgbpfdnaalaa.U
open Go.RowKit Go.Proofs.Ytnnlgbpfdnaalaa.Pr Go.Proofs.YtnnlgbpfdnaalaaW.PrintWords Go.Proofs.YtnnlgbpfdnaalaaW.PrintLast Go.Proofs.YtnnlgbpfdnaalaaW.PrintMore
set_option linter.unusedVariables false
set_option linter.unusedSimpArgs false
theorem toIntS (l : List Int) (hl : l.length ≤ 1048576) : Ev (fun k => laws_toIntS.f k l) (l) := by
  unfold laws_toIntS.f
  repeat (first | (with_reducible refine ev_pos (by first | omega | rfl | decide) ?_) | (with_reducible refine ev_neg (by first | omega | decide) ?_))
  have key := ev_copy (F := fun k y i => laws_toIntS.l0 k l y i) (fun x => x) l (List.replicate ((l.length : Int) : Int).toNat 0) (by simp) ?step ?done
  case step =>
    intro i h y r hy hr
    refine ev_step (fun _ => laws_toIntS.l0.eq_2 ..) ?_
    repeat (first | (with_reducible refine ev_pos (by first | omega | rfl | decide) ?_) | (with_reducible refine ev_neg (by first | omega | decide) ?_))
    rw [rd_at h, w64n h (by omega), Int.toNat_natCast]
    exact hr
  case done =>
    intro y hy
    refine ev_step (fun _ => laws_toIntS.l0.eq_2 ..) ?_
    repeat (first | (with_reducible refine ev_pos (by first | omega | rfl | decide) ?_) | (with_reducible refine ev_neg (by first | omega | decide) ?_))
    exact ev_now _
  simpa using key
theorem eqIntS (l : List Int) (hl : l.length ≤ 1048576) : Ev (fun k => laws_eqIntS.f k l l) true := by
  unfold laws_eqIntS.f
  refine ev_pos rfl ?_
  refine up_ind l.length (fun i => Ev (fun k => laws_eqIntS.l0 k l l (i : Int)) true) ?_ ?_ 0 (by omega)
  · refine ev_step (fun _ => laws_eqIntS.l0.eq_2 ..) ?_
    refine ev_neg (by omega) ?_
    exact ev_now _
  · intro i h ih
    refine ev_step (fun _ => laws_eqIntS.l0.eq_2 ..) ?_
    repeat (first | (with_reducible refine ev_pos (by first | omega | rfl | decide) ?_) | (with_reducible refine ev_neg (by first | omega | decide) ?_))
    rw [w64n h (by omega)]
    exact ih
theorem markIntS (l : List Int) (hl : l.length ≤ 1048576) (c : Int) (h0 : 0 < c) (h1 : c ≤ 4611686018427387904) : ∃ y c', Ev (fun k => laws_markIntS.f k l c) (c', y) ∧ Ev (fun k => laws_heldIntS.f k y c) c' ∧ c ≤ c' ∧ c' ≤ c + 1 * l.length := by
  have key := up_ind l.length (fun i => ∀ (x : List Int) (c : Int), x.length = l.length → 0 < c → c + 1 * (l.length - i : Nat) ≤ 9000000000000000000 → ∃ y c', Ev (fun k => laws_markIntS.l0 k x c (i : Int)) (c', y) ∧ Ev (fun k => laws_heldIntS.l0 k y c (i : Int)) c' ∧ y.length = l.length ∧ (∀ j, j < i → y[j]? = x[j]?) ∧ c ≤ c' ∧ c' ≤ c + 1 * (l.length - i : Nat)) ?d ?s 0 (by omega) l c rfl h0 (by omega)
  case d =>
    intro x c hx h0 h1
    refine ⟨x, c, ev_step (fun _ => laws_markIntS.l0.eq_2 ..) (ev_neg (by omega) (ev_now _)), ev_step (fun _ => laws_heldIntS.l0.eq_2 ..) (ev_neg (by omega) (ev_now _)), hx, fun _ _ => rfl, by omega, by omega⟩
  case s =>
    intro i h ih x c hx h0 h1
    obtain ⟨y, c', e1, e2, hy, hj, q1, q2⟩ := ih (x.set i c) (c + 1) (by simp [hx]) (by omega) (by omega)
    refine ⟨y, c', ev_step (fun _ => laws_markIntS.l0.eq_2 ..) ?_, ev_step (fun _ => laws_heldIntS.l0.eq_2 ..) ?_, hy, fun j h' => ?_, by omega, by omega⟩
    · repeat (first | (with_reducible refine ev_pos (by first | omega | rfl | decide) ?_) | (with_reducible refine ev_neg (by first | omega | decide) ?_))
      rw [w64 (x := c + 1) (by omega) (by omega), w64n h (by omega), Int.toNat_natCast]
      exact e1
    · repeat (first | (with_reducible refine ev_pos (by first | omega | rfl | decide) ?_) | (with_reducible refine ev_neg (by first | omega | decide) ?_))
      have ey : rd y (i : Int) = c := by
        have := hj i (by omega)
        rw [List.getElem?_set_self (by omega), List.getElem?_eq_getElem (by omega)] at this
        rw [rd_at (by omega)]
        exact Option.some.inj this
      rw [ey]
      refine ev_pos rfl ?_
      rw [w64 (x := c + 1) (by omega) (by omega), w64n h (by omega)]
      exact e2
    · rw [hj j (by omega), List.getElem?_set_ne (by omega)]
  obtain ⟨y, c', e1, e2, _, _, q1, q2⟩ := key
  exact ⟨y, c', e1, e2, q1, by omega⟩
end Go.Proofs.Ytnnlgbpfdnaalaa.U

