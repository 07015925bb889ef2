/- Plain lemmas over the printed functions, for the law FnExactPatternParts; each theorem states its own conditions. -/
import Derived.Test.YtnnlgbpfdnaalaaPrx0
import Derived.Test.YtnnlgbpfdnaalaaPrxg3e55en1
import Derived.Test.YtnnlgbpfdnaalaaPrxg4c69an1
import Derived.Test.YtnnlgbpfdnaalaaPrxg4c69an2
import Derived.Test.YtnnlgbpfdnaalaaPrxg7b2f3n1
import Derived.Test.YtnnlgbpfdnaalaaPrxg7c734n1
import Derived.Test.YtnnlgbpfdnaalaaPrxg95654n1
import Derived.Test.YtnnlgbpfdnaalaaPrxge9eean1
namespace Go.Proofs.Ytnnlgbpfdnaalaa.U
open Go.RowKit Go.Proofs.Ytnnlgbpfdnaalaa.Pr Go.Proofs.YtnnlgbpfdnaalaaW.PrintWords Go.Proofs.YtnnlgbpfdnaalaaW.PrintLast Go.Proofs.YtnnlgbpfdnaalaaW.PrintMore
set_option linter.unusedVariables false
set_option linter.unusedSimpArgs false
/-! Words for plain proofs over the printed functions: from some number of rounds on; loops that go up; ranges. -/
theorem w64 {x : Int} (h0 : -9223372036854775808 ≤ x) (h1 : x ≤ 9223372036854775807) : wrap64 x = x := by unfold wrap64; omega
theorem w64n {i n : Nat} (h : i < n) (hn : n ≤ 9223372036854775807) : wrap64 ((i : Int) + 1) = ((i + 1 : Nat) : Int) := by unfold wrap64; omega
theorem ev_now {α : Type} (r : α) : Ev (fun _ => some r) r := Ev.now r
theorem ev_eq {α : Type} {g : Option α} {r : α} (h : g = some r) : Ev (fun _ => g) r := ⟨0, fun _ _ => h⟩
theorem ev_pos {α : Type} {c : Prop} [Decidable c] {a b : Nat → Option α} {r : α} (h : c) (e : Ev a r) : Ev (fun k => if c then a k else b k) r := by
  obtain ⟨K, e⟩ := e
  exact ⟨K, fun k hk => (if_pos h).trans (e k hk)⟩
theorem ev_neg {α : Type} {c : Prop} [Decidable c] {a b : Nat → Option α} {r : α} (h : ¬ c) (e : Ev b r) : Ev (fun k => if c then a k else b k) r := by
  obtain ⟨K, e⟩ := e
  exact ⟨K, fun k hk => (if_neg h).trans (e k hk)⟩
theorem ev_ite {α : Type} {c : Prop} [Decidable c] {a b : Nat → Option α} {r : α} (h : c → Ev a r) (h' : ¬ c → Ev b r) : Ev (fun k => if c then a k else b k) r := by
  by_cases hc : c
  · exact ev_pos hc (h hc)
  · exact ev_neg hc (h' hc)
theorem ev_bind {α β : Type} {g : Nat → Option α} {f : Nat → α → Option β} {a : α} {r : β} (h : Ev g a) (k : Ev (fun n => f n a) r) : Ev (fun n => (g n).bind (f n)) r := Ev.bind h k
theorem ev_some {α β : Type} {f : Nat → α → Option β} {a : α} {r : β} (k : Ev (fun n => f n a) r) : Ev (fun n => (some a).bind (f n)) r := Ev.bind (Ev.now a) k
theorem ev_step {α : Type} {g f : Nat → Option α} {r : α} (h : ∀ k, g (k + 1) = f k) (k : Ev f r) : Ev g r := Ev.step h k
/-- What holds at the end and goes down a round, holds at each round. -/
theorem up_ind (n : Nat) (Q : Nat → Prop) (done : Q n) (step : ∀ i, i < n → Q (i + 1) → Q i) : ∀ i, i ≤ n → Q i := by
  have key : ∀ d i, i + d = n → Q i := by
    intro d
    induction d with
    | zero =>
      intro i h
      have e : i = n := by omega
      rw [e]
      exact done
    | succ d ih => intro i h; exact step i (by omega) (ih (i + 1) (by omega))
  exact fun i h => key (n - i) i (by omega)
theorem getD_lt {α : Type} {l : List α} {d : α} {i : Nat} (h : i < l.length) : l.getD ((i : Int).toNat) d = l[i] := by
  rw [Int.toNat_natCast, List.getD_eq_getElem?_getD, List.getElem?_eq_getElem h]
  rfl
theorem rd_at {l : List Int} {i : Nat} (h : i < l.length) : rd l (i : Int) = l[i] := getD_lt h
theorem rdOf_at {α : Type} {d : α} {l : List α} {i : Nat} (h : i < l.length) : rdOf d l (i : Int) = l[i] := getD_lt h
end Go.Proofs.Ytnnlgbpfdnaalaa.U
namespace Go.Proofs.Ytnnlgbpfdnaalaa.U
open Go.RowKit Go.Proofs.Ytnnlgbpfdnaalaa.Pr Go.Proofs.YtnnlgbpfdnaalaaW.PrintWords Go.Proofs.YtnnlgbpfdnaalaaW.PrintLast Go.Proofs.YtnnlgbpfdnaalaaW.PrintMore
set_option linter.unusedVariables false
set_option linter.unusedSimpArgs false
/-- A string's bytes. -/
abbrev Y (s : ByteArray) : List UInt8 := s.data.toList
theorem Y_len (s : ByteArray) : (Y s).length = s.size := Array.length_toList
theorem bt_at {s : ByteArray} {i : Nat} (h : i < s.size) : bt s (i : Int) = (((Y s)[i]'(by rw [Y_len]; exact h)).toNat : Int) := by
  unfold bt
  rw [dif_pos (show ((i : Int)).toNat < s.size from by omega)]
  rfl
theorem Y_drop {s : ByteArray} {i : Nat} (h : i < s.size) : (Y s).drop i = (Y s)[i]'(by rw [Y_len]; exact h) :: (Y s).drop (i + 1) := List.drop_eq_getElem_cons _
theorem Y_drop_end (s : ByteArray) : (Y s).drop s.size = [] := by rw [← Y_len, List.drop_length]
def prC (c : UInt8) : Bool := decide (32 ≤ (c.toNat : Int)) && decide ((c.toNat : Int) ≤ 126)
def prL (n : Nat) (l : List UInt8) : Bool := decide (l.length ≤ n) && l.all prC
end Go.Proofs.Ytnnlgbpfdnaalaa.U
namespace Go.Proofs.Ytnnlgbpfdnaalaa.U
open Go.RowKit Go.Proofs.Ytnnlgbpfdnaalaa.Pr Go.Proofs.YtnnlgbpfdnaalaaW.PrintWords Go.Proofs.YtnnlgbpfdnaalaaW.PrintLast Go.Proofs.YtnnlgbpfdnaalaaW.PrintMore
set_option linter.unusedVariables false
set_option linter.unusedSimpArgs false
theorem printed_spec (s : ByteArray) (hs : s.size ≤ 9223372036854775807) : Ev (fun k => spec_l2Printed.f k s) ((Y s).all prC) := by
  refine up_ind s.size (fun i => Ev (fun k => spec_l2Printed.l0 k s (i : Int)) (((Y s).drop i).all prC)) ?_ ?_ 0 (by omega)
  · rw [Y_drop_end]
    exact ev_step (fun _ => spec_l2Printed.l0.eq_2 ..) (ev_neg (by omega) (ev_now _))
  · intro i h ih
    refine ev_step (fun _ => spec_l2Printed.l0.eq_2 ..) (ev_pos (by omega) (ev_pos (by omega) ?_))
    rw [bt_at h, Y_drop h, List.all_cons, w64n h hs]
    unfold prC
    refine ev_ite (fun h1 => ?_) (fun h1 => ev_ite (fun h2 => ?_) (fun h2 => ?_))
    · rw [decide_eq_false (by omega)]
      exact ev_now _
    · rw [decide_eq_false (show ¬ _ ≤ (126 : Int) from by omega), Bool.and_false, Bool.false_and]
      exact ev_now _
    · rw [decide_eq_true (by omega), decide_eq_true (by omega)]
      exact ih
theorem printed_impl (s : ByteArray) (hs : s.size ≤ 9223372036854775807) (n : Nat) : Ev (fun k => impl_printed.f k s (n : Int)) (prL n (Y s)) := by
  unfold impl_printed.f prL
  rw [Y_len]
  refine ev_ite (fun h => ?_) (fun h => ?_)
  · rw [decide_eq_false (by omega)]
    exact ev_now _
  · rw [decide_eq_true (by omega), Bool.true_and]
    refine up_ind s.size (fun i => Ev (fun k => impl_printed.l0 k s (s.size : Int) (i : Int)) (((Y s).drop i).all prC)) ?_ ?_ 0 (by omega)
    · rw [Y_drop_end]
      exact ev_step (fun _ => impl_printed.l0.eq_2 ..) (ev_neg (by omega) (ev_now _))
    · intro i h ih
      refine ev_step (fun _ => impl_printed.l0.eq_2 ..) (ev_pos (by omega) (ev_pos (by omega) (ev_pos (by omega) ?_)))
      rw [bt_at h, Y_drop h, List.all_cons, w64n h hs]
      unfold prC
      refine ev_ite (fun h1 => ?_) (fun h1 => ev_ite (fun h2 => ?_) (fun h2 => ?_))
      · rw [decide_eq_false (by omega)]
        exact ev_now _
      · rw [decide_eq_false (show ¬ _ ≤ (126 : Int) from by omega), Bool.and_false, Bool.false_and]
        exact ev_now _
      · rw [decide_eq_true (by omega), decide_eq_true (by omega)]
        exact ih
end Go.Proofs.Ytnnlgbpfdnaalaa.U
namespace Go.Proofs.Ytnnlgbpfdnaalaa.U
open Go.RowKit Go.Proofs.Ytnnlgbpfdnaalaa.Pr Go.Proofs.YtnnlgbpfdnaalaaW.PrintWords Go.Proofs.YtnnlgbpfdnaalaaW.PrintLast Go.Proofs.YtnnlgbpfdnaalaaW.PrintMore
set_option linter.unusedVariables false
set_option linter.unusedSimpArgs false
/-- What both programs' GoodPattern answer. -/
def patB (s : ByteArray) : Bool := prL 100 (Y s) && (altA s 0 [] []).2
/-- A pattern's alternatives, as codes. -/
def patA (s : ByteArray) : List (List Int) := if prL 100 (Y s) = true then (altA s 0 [] []).1 else []
theorem prL_size {s : ByteArray} {n : Nat} (h : prL n (Y s) = true) : s.size ≤ n := by
  unfold prL at h
  rw [Y_len, Bool.and_eq_true, decide_eq_true_eq] at h
  exact h.1
theorem alt_spec (s : ByteArray) (hs : s.size ≤ 9223372036854775807) : Ev (fun k => spec_l2Alternatives.f k s) (patA s, patB s) := by
  unfold spec_l2Alternatives.f patB patA prL
  rw [Y_len]
  refine ev_ite (fun h => ?_) (fun h => ?_)
  · rw [decide_eq_false (by omega), Bool.false_and, Bool.false_and, if_neg (by decide)]
    exact ev_now _
  · rw [decide_eq_true (by omega), Bool.true_and]
    refine ev_bind (printed_spec s hs) (ev_ite (fun h1 => ?_) (fun h1 => ?_))
    · rw [h1, Bool.true_and, if_pos rfl]
      exact ev_now _
    · rw [Bool.eq_false_iff.2 h1, Bool.false_and, if_neg (by decide)]
      exact ev_now _
theorem alt_impl (s : ByteArray) (hs : s.size ≤ 9223372036854775807) : Ev (fun k => impl_alternatives.f k s) ((patA s).map (List.map altP), patB s) := by
  unfold impl_alternatives.f patB patA
  refine ev_bind (printed_impl s hs 100) (ev_ite (fun h1 => ?_) (fun h1 => ?_))
  · have h2 := prL_size h1
    rw [h1, Bool.true_and, if_pos rfl]
    exact ev_pos (by omega) (ev_now _)
  · rw [Bool.eq_false_iff.2 h1, Bool.false_and, if_neg (by decide)]
    exact ev_now _
theorem pat_spec (s : ByteArray) (hs : s.size ≤ 9223372036854775807) : Ev (fun k => spec_GoodPattern.f k s) (patB s) := by
  unfold spec_GoodPattern.f
  exact ev_bind (alt_spec s hs) (ev_now _)
end Go.Proofs.Ytnnlgbpfdnaalaa.U
namespace Go.Proofs.Ytnnlgbpfdnaalaa.U
open Go.RowKit Go.Proofs.Ytnnlgbpfdnaalaa.Pr Go.Proofs.YtnnlgbpfdnaalaaW.PrintWords Go.Proofs.YtnnlgbpfdnaalaaW.PrintLast Go.Proofs.YtnnlgbpfdnaalaaW.PrintMore
set_option linter.unusedVariables false
set_option linter.unusedSimpArgs false
theorem altP_f2 {c : Int} (h : c ≠ -1) : (altP c).f2 = false := by unfold altP; rw [if_neg h]; split <;> rfl
theorem altP_any : (altP (-2)).f1 = true := rfl
theorem altP_f1 {c : Int} (h : c ≠ -1) (h2 : c ≠ -2) : altP c = ⟨c, false, false⟩ := by unfold altP; rw [if_neg h, if_neg h2]
theorem row_rd {s : ByteArray} {l : List S131} {k : Nat} (h : k ≤ s.size) : rdOf false (rowP s l) (k : Int) = fitP s l k := by
  rw [rdOf, Int.toNat_natCast, List.getD_eq_getElem?_getD, rowP_at h]; rfl
theorem row_of {s : ByteArray} {l : List S131} {x : List Bool} (hl : x.length = s.size + 1) (h : ∀ q, q ≤ s.size → x[q]? = some (fitP s l q)) : x = rowP s l := by
  apply List.ext_getElem?
  intro q
  by_cases hq : q ≤ s.size
  · rw [h q hq, rowP_at hq]
  · rw [List.getElem?_eq_none (by omega), List.getElem?_eq_none (by rw [rowP_len]; omega)]
section
variable (a : List Int) (s : ByteArray) (ha : a.length ≤ 4611686018427387904) (hs : s.size ≤ 1048576)
theorem rest_in (i : Nat) (hi : i < a.length) (r : List Bool) (h : Ev (fun k => spec_l2Rest.l0 k a s (rowP s ((a.map altP).drop i)) ((i : Int) - 1)) r) (ha : a.length ≤ 4611686018427387904) (hs : s.size ≤ 1048576) :
    ∀ (kk : Nat) (x : List Bool), kk ≤ s.size + 1 → x.length = s.size + 1 → (∀ q, kk ≤ q → q ≤ s.size → x[q]? = some (fitP s ((a.map altP).drop i) q)) → Ev (fun k => spec_l2Rest.l1 k a s (rowP s ((a.map altP).drop (i + 1))) (i : Int) x ((kk : Int) - 1)) r := by
  intro kk
  induction kk with
  | zero =>
    intro x _ hx hq
    refine ev_step (fun _ => spec_l2Rest.l1.eq_2 ..) (ev_neg (by omega) ?_)
    rw [row_of hx (fun q h => hq q (Nat.zero_le _) h), w64 (by omega) (by omega)]
    exact h
  | succ q ih =>
    intro x hk hx hq
    have hil : i < (a.map altP).length := by simpa using hi
    have hel : (a.map altP)[i] = altP a[i] := by simp
    have e0 : ((q + 1 : Nat) : Int) - 1 = (q : Int) := by omega
    have e1 : wrap64 ((q : Int) - 1) = (q : Int) - 1 := w64 (by omega) (by omega)
    have e2 : wrap64 ((q : Int) + 1) = ((q + 1 : Nat) : Int) := by rw [w64 (by omega) (by omega)]; omega
    have hrl : (rowP s ((a.map altP).drop (i + 1))).length = s.size + 1 := rowP_len _ _
    have key : ∀ v, fitP s ((a.map altP).drop i) q = v → Ev (fun k => spec_l2Rest.l1 k a s (rowP s ((a.map altP).drop (i + 1))) (i : Int) (x.set ((q : Int)).toNat v) (wrap64 ((q : Int) - 1))) r := by
      intro v hv
      rw [e1, Int.toNat_natCast]
      refine ih _ (by omega) (by rw [List.length_set]; exact hx) (fun p h1 h2 => ?_)
      by_cases e : p = q
      · subst e
        rw [List.getElem?_set_self (by omega), hv]
      · rw [List.getElem?_set_ne (fun h => e h.symm)]
        exact hq p (by omega) h2
    refine ev_step (fun _ => spec_l2Rest.l1.eq_2 ..) ?_
    rw [e0]
    refine ev_pos (by omega) (ev_pos (by omega) (ev_pos (by omega) ?_))
    rw [rd_at hi, e2]
    by_cases hc : a[i] = -1
    · have hst : ((a.map altP)[i]).f2 = true := by rw [hel, hc]; rfl
      refine ev_pos hc (ev_pos (by omega) (ev_pos (by omega) ?_))
      rw [row_rd (by omega)]
      refine ev_ite (fun hb => ev_pos (by omega) (key _ ?_)) (fun hb => ev_ite (fun hl => ev_pos (by omega) (ev_pos (by omega) (ev_pos (by omega) (key _ ?_)))) (fun hl => ev_pos (by omega) (key _ ?_)))
      · rw [fitP_star hil hst]
        by_cases hl : q < s.size
        · rw [starF_on hl, hb, Bool.true_or]
        · rw [starF_end hl, hb]
      · rw [fitP_star hil hst, starF_on (by omega), Bool.eq_false_iff.2 hb, Bool.false_or, ← fitP_star hil hst, rdOf, Int.toNat_natCast, List.getD_eq_getElem?_getD, hq (q + 1) (by omega) (by omega)]
        rfl
      · rw [fitP_star hil hst, starF_end (by omega), Bool.eq_false_iff.2 hb]
    · have hst : ((a.map altP)[i]).f2 = false := by rw [hel]; exact altP_f2 hc
      refine ev_neg hc (ev_ite (fun hl => ev_pos (by omega) (ev_pos (by omega) ?_)) (fun hl => ev_pos (by omega) (ev_pos (by omega) (key _ ?_))))
      · rw [row_rd (by omega)]
        refine ev_ite (fun hb => ev_ite (fun h2 => ev_pos (by omega) (ev_pos (by omega) (key _ ?_))) (fun h2 => ev_pos (by omega) (ev_pos (by omega) (key _ ?_)))) (fun hb => ev_pos (by omega) (ev_pos (by omega) (key _ ?_)))
        · rw [fitP_on hil hst, decide_eq_true (show q < s.size by omega), hel, h2, altP_any, hb]; rfl
        · rw [fitP_on hil hst, decide_eq_true (show q < s.size by omega), hel, altP_f1 hc h2, hb, wrap_bt]
          simp
        · rw [fitP_on hil hst, Bool.eq_false_iff.2 hb, Bool.and_false, Bool.and_false]
      · rw [fitP_on hil hst, decide_eq_false (show ¬ q < s.size by omega), Bool.false_and]
theorem rest_spec (ha : a.length ≤ 4611686018427387904) (hs : s.size ≤ 1048576) : Ev (fun k => spec_l2Rest.f k a s) (rowP s (a.map altP)) := by
  have main : ∀ i, i ≤ a.length → Ev (fun k => spec_l2Rest.l0 k a s (rowP s ((a.map altP).drop i)) ((i : Int) - 1)) (rowP s (a.map altP)) := by
    intro i
    induction i with
    | zero =>
      intro _
      exact ev_step (fun _ => spec_l2Rest.l0.eq_2 ..) (ev_neg (by omega) (ev_now _))
    | succ i ih =>
      intro hi
      have h := ih (by omega)
      have e0 : ((i + 1 : Nat) : Int) - 1 = (i : Int) := by omega
      have e1 : wrap64 ((s.size : Int) + 1) = ((s.size + 1 : Nat) : Int) := by rw [w64 (by omega) (by omega)]; omega
      refine ev_step (fun _ => spec_l2Rest.l0.eq_2 ..) ?_
      rw [e0, e1]
      refine ev_pos (by omega) (ev_pos (by omega) (ev_pos (by omega) ?_))
      have := rest_in a s i (by omega) _ h ha hs (s.size + 1) (List.replicate (s.size + 1) false) (Nat.le_refl _) (by simp) (fun q h1 h2 => by omega)
      rw [show ((s.size + 1 : Nat) : Int) - 1 = (s.size : Int) by omega] at this
      rw [Int.toNat_natCast]
      exact this
  have h := main a.length (Nat.le_refl _)
  have e1 : wrap64 ((s.size : Int) + 1) = ((s.size + 1 : Nat) : Int) := by rw [w64 (by omega) (by omega)]; omega
  unfold spec_l2Rest.f
  rw [e1]
  refine ev_pos (by omega) (ev_pos (by omega) (ev_some (ev_pos (by omega) (ev_pos (by rw [List.length_replicate]; omega) ?_))))
  rw [w64 (by omega) (by omega), Int.toNat_natCast, Int.toNat_natCast]
  have e2 : (List.replicate (s.size + 1) false).set s.size true = rowP s ((a.map altP).drop a.length) := by
    refine row_of (by simp) (fun q hq => ?_)
    rw [fitP_nil (by simp)]
    by_cases e : q = s.size
    · subst e
      rw [List.getElem?_set_self (by simp), decide_eq_true rfl]
    · rw [List.getElem?_set_ne (fun h => e h.symm), decide_eq_false e, List.getElem?_replicate, if_pos (by omega)]
  rw [e2]
  exact h
end
/-- The alternatives' lengths. -/
theorem altS_len (s : ByteArray) (B : Nat) : ∀ (d i : Nat) (o : List (List Int)) (nw : List Int), (∀ x ∈ o, x.length ≤ B) → nw.length + d ≤ B → (∀ x ∈ (altS s d i o nw).1, x.length ≤ B) ∧ (altS s d i o nw).1.length ≤ o.length + d + 1 := by
  intro d
  induction d with
  | zero =>
    intro i o nw h1 h2
    simp only [altS]
    exact ⟨fun x hx => (List.mem_append.1 hx).elim (fun hx => h1 x hx) (fun hx => by rw [List.mem_singleton.1 hx]; omega), by simp⟩
  | succ d ih =>
    intro i o nw h1 h2
    have hw : ∀ x ∈ o ++ [nw], x.length ≤ B := fun x hx => (List.mem_append.1 hx).elim (fun hx => h1 x hx) (fun hx => by rw [List.mem_singleton.1 hx]; omega)
    have go : ∀ j (o' : List (List Int)) (nw' : List Int), (∀ x ∈ o', x.length ≤ B) → nw'.length + d ≤ B → o'.length ≤ o.length + 1 → (∀ x ∈ (altS s d j o' nw').1, x.length ≤ B) ∧ (altS s d j o' nw').1.length ≤ o.length + (d + 1) + 1 := fun j o' nw' g1 g2 g3 => ⟨(ih j o' nw' g1 g2).1, by have := (ih j o' nw' g1 g2).2; omega⟩
    simp only [altS]
    split
    · split
      · exact go _ _ _ hw (by simp; omega) (by simp)
      · split
        · exact go _ _ _ h1 (by simp; omega) (by omega)
        · split
          · exact go _ _ _ h1 (by simp; omega) (by omega)
          · split
            · split
              · split
                · exact go _ _ _ h1 (by simp; omega) (by omega)
                · exact ⟨fun x hx => (by cases hx), by simp⟩
              · exact ⟨fun x hx => (by cases hx), by simp⟩
            · exact go _ _ _ h1 (by simp; omega) (by omega)
    · exact ⟨hw, by simp⟩
theorem patA_len (s : ByteArray) : (∀ x ∈ patA s, x.length ≤ 100) ∧ (patA s).length ≤ 101 := by
  unfold patA
  split
  · rename_i h
    have hz := prL_size h
    have := altS_len s s.size s.size 0 [] [] (fun x hx => by cases hx) (by simp)
    unfold altA
    exact ⟨fun x hx => by have := this.1 x hx; omega, by have := this.2; simp at this ⊢; omega⟩
  · exact ⟨fun x hx => (by cases hx), by simp⟩
/-- What a good pattern's stars stand for. -/
def partsL (s : ByteArray) : List (List Int) → List ByteArray × Bool
  | [] => ([], false)
  | a :: l => if fitP s (a.map altP) 0 = true then (partP s (a.map altP) 0, true) else partsL s l
def ppL (p s : ByteArray) : List ByteArray × Bool := if patB p = true then (if s.size ≤ 100 then partsL s (patA p) else ([], false)) else ([], false)
theorem parts_in (a : List Int) (s : ByteArray) (ha : a.length ≤ 1000) (hs : s.size ≤ 1048576) : ∀ (d m q : Nat) (o : List ByteArray), m + d = a.length → q ≤ s.size → o.length ≤ m → fitP s ((a.map altP).drop m) q = true → Ev (fun k => spec_l2Parts.l1 k s a o (q : Int) a (a.length : Int) (m : Int)) (o ++ partP s ((a.map altP).drop m) q, true) := by
  intro d
  induction d with
  | zero =>
    intro m q o hm hq ho hf
    refine ev_step (fun _ => spec_l2Parts.l1.eq_2 ..) (ev_neg (by omega) ?_)
    rw [List.drop_eq_nil_of_le (by simp; omega)]
    rw [show partP s [] q = [] from rfl, List.append_nil]
    exact ev_now _
  | succ d ih =>
    intro m q o hm hq ho hf
    have hml : m < a.length := by omega
    have hil : m < (a.map altP).length := by simpa using hml
    have hel : (a.map altP)[m] = altP a[m] := by simp
    have e2 : wrap64 ((m : Int) + 1) = ((m + 1 : Nat) : Int) := w64n hml (by omega)
    refine ev_step (fun _ => spec_l2Parts.l1.eq_2 ..) (ev_pos (by omega) (ev_pos (by omega) (ev_pos (by omega) ?_)))
    rw [rd_at hml, e2]
    by_cases hc : a[m] = -1
    · have hst : ((a.map altP)[m]).f2 = true := by rw [hel, hc]; rfl
      rw [fitP_star hil hst] at hf
      rw [partP_star hil hst]
      have hG : ((a.drop (m + 1)).map altP) = (a.map altP).drop (m + 1) := List.map_drop
      refine ev_pos hc (ev_pos (by omega) (ev_pos (by omega) ?_))
      rw [Int.toNat_natCast]
      refine ev_bind (rest_spec (a.drop (m + 1)) s (by rw [List.length_drop]; omega) hs) ?_
      rw [hG]
      obtain ⟨n0, n1, n2⟩ := starF_nxt _ _ _ hf
      have key : ∀ (c n : Nat), n + c = s.size → q ≤ n → starF (fitP s ((a.map altP).drop (m + 1))) (s.size - n) n = true → nxtF (fitP s ((a.map altP).drop (m + 1))) (s.size - n) n = nxtF (fitP s ((a.map altP).drop (m + 1))) (s.size - q) q → Ev (fun k => spec_l2Parts.l2 k s a o (q : Int) (rowP s ((a.map altP).drop (m + 1))) (n : Int) a (a.length : Int) (m : Int)) (o ++ s.extract q (nxtF (fitP s ((a.map altP).drop (m + 1))) (s.size - q) q) :: partP s ((a.map altP).drop (m + 1)) (nxtF (fitP s ((a.map altP).drop (m + 1))) (s.size - q) q), true) := by
        intro c
        induction c with
        | zero =>
          intro n hn hqn hS hN
          have hb : fitP s ((a.map altP).drop (m + 1)) n = true := by rw [starF_end (by omega)] at hS; exact hS
          have hN2 : nxtF (fitP s ((a.map altP).drop (m + 1))) (s.size - q) q = n := by rw [← hN, show s.size - n = 0 by omega]; rfl
          refine ev_step (fun _ => spec_l2Parts.l2.eq_2 ..) (ev_pos (by omega) (ev_pos (by rw [rowP_len]; omega) ?_))
          rw [row_rd (by omega), hN2, e2]
          refine ev_pos hb (ev_pos (by omega) (ev_pos (by omega) (ev_pos (by omega) (ev_pos (by omega) ?_))))
          rw [Int.toNat_natCast, Int.toNat_natCast]
          have := ih (m + 1) n (o ++ [s.extract q n]) (by omega) (by omega) (by simp; omega) hb
          rw [List.append_assoc] at this
          exact this
        | succ c ihc =>
          intro n hn hqn hS hN
          refine ev_step (fun _ => spec_l2Parts.l2.eq_2 ..) (ev_pos (by omega) (ev_pos (by rw [rowP_len]; omega) ?_))
          rw [row_rd (by omega)]
          refine ev_ite (fun hb => ?_) (fun hb => ?_)
          · have hN2 : nxtF (fitP s ((a.map altP).drop (m + 1))) (s.size - q) q = n := by
              rw [← hN, show s.size - n = (s.size - (n + 1)) + 1 by omega]; simp only [nxtF]; rw [if_pos hb]
            rw [hN2, e2]
            refine ev_pos (by omega) (ev_pos (by omega) (ev_pos (by omega) (ev_pos (by omega) ?_)))
            rw [Int.toNat_natCast, Int.toNat_natCast]
            have := ih (m + 1) n (o ++ [s.extract q n]) (by omega) (by omega) (by simp; omega) hb
            rw [List.append_assoc] at this
            exact this
          · rw [w64n (show n < s.size by omega) (by omega)]
            refine ihc (n + 1) (by omega) (by omega) ?_ ?_
            · rw [starF_on (by omega), Bool.eq_false_iff.2 hb, Bool.false_or] at hS; exact hS
            · rw [← hN, show s.size - n = (s.size - (n + 1)) + 1 by omega]; simp only [nxtF]; rw [if_neg hb]
      exact key (s.size - q) q (by omega) (Nat.le_refl _) hf rfl
    · have hst : ((a.map altP)[m]).f2 = false := by rw [hel]; exact altP_f2 hc
      rw [fitP_on hil hst] at hf
      simp only [Bool.and_eq_true, decide_eq_true_eq] at hf
      rw [partP_on hil hst, w64n hf.1 (by omega)]
      exact ev_neg hc (ih (m + 1) (q + 1) o (by omega) (by omega) (by omega) hf.2.2)
theorem l2parts_spec (p s : ByteArray) (hp : p.size ≤ 9223372036854775807) (hs : s.size ≤ 1048576) : Ev (fun k => spec_l2Parts.f k p s) (partsL s (patA p)) := by
  obtain ⟨h1, h2⟩ := patA_len p
  unfold spec_l2Parts.f
  refine ev_bind (alt_spec p hp) ?_
  generalize patA p = l at h1 h2
  have hrd : ∀ (i : Nat) (h : i < l.length), rd_L3 l (i : Int) = l[i] := fun i h => getD_lt h
  refine up_ind l.length (fun i => Ev (fun k => spec_l2Parts.l0 k s l (l.length : Int) (i : Int)) (partsL s (l.drop i))) ?_ ?_ 0 (by omega)
  · rw [List.drop_length]
    exact ev_step (fun _ => spec_l2Parts.l0.eq_2 ..) (ev_neg (by omega) (ev_now _))
  · intro i h ih
    have hl := h1 _ (List.getElem_mem h)
    refine ev_step (fun _ => spec_l2Parts.l0.eq_2 ..) (ev_pos (by omega) (ev_pos (by omega) (ev_pos (by omega) ?_)))
    rw [hrd i h, List.drop_eq_getElem_cons h, w64n h (by omega)]
    refine ev_bind (rest_spec l[i] s (by omega) hs) (ev_pos (by rw [rowP_len]; omega) ?_)
    rw [show rdOf false (rowP s (l[i].map altP)) 0 = fitP s (l[i].map altP) 0 from row_rd (k := 0) (Nat.zero_le _)]
    simp only [partsL]
    refine ev_ite (fun hb => ?_) (fun hb => ?_)
    · rw [if_pos hb]
      exact parts_in l[i] s (by omega) hs l[i].length 0 0 [] (by omega) (Nat.zero_le _) (Nat.le_refl _) hb
    · rw [if_neg hb]; exact ih
theorem pp_spec (p s : ByteArray) (hp : p.size ≤ 9223372036854775807) (hs : s.size ≤ 1048576) : Ev (fun k => spec_PatternParts.f k p s) (ppL p s) := by
  unfold spec_PatternParts.f ppL
  refine ev_bind (pat_spec p hp) (ev_ite (fun h => ?_) (fun h => ?_))
  · rw [if_pos h]
    refine ev_ite (fun h1 => ?_) (fun h1 => ?_)
    · rw [if_neg (by omega)]; exact ev_now _
    · rw [if_pos (by omega)]
      exact ev_bind (l2parts_spec p s hp hs) (ev_now _)
  · rw [if_neg h]; exact ev_now _
theorem pp_impl (p s : ByteArray) (hp : p.size ≤ 9223372036854775807) (hs : s.size ≤ 1048576) : Ev (fun k => impl_PatternParts.f k p s) (ppL p s) := by
  obtain ⟨h1, h2⟩ := patA_len p
  unfold impl_PatternParts.f ppL
  refine ev_bind (alt_impl p hp) (ev_ite (fun h => ?_) (fun h => ?_))
  · rw [if_pos h]
    refine ev_step (fun _ => impl_PatternParts.j0.eq_2 ..) (ev_ite (fun h3 => ?_) (fun h3 => ?_))
    · rw [if_neg (by have := of_decide_eq_true h3; omega)]; exact ev_now _
    · have hz : s.size ≤ 100 := by
        rcases Nat.lt_or_ge 100 s.size with h4 | h4
        · exact absurd (decide_eq_true (by omega)) h3
        · exact h4
      rw [if_pos hz]
      generalize patA p = l at h1 h2
      have hrd : ∀ (i : Nat) (h : i < l.length), rd_L6 (l.map (List.map altP)) (i : Int) = l[i].map altP := fun i h => by
        show (l.map (List.map altP)).getD ((i : Int)).toNat _ = _
        rw [Int.toNat_natCast, List.getD_eq_getElem?_getD, List.getElem?_map, List.getElem?_eq_getElem h]; rfl
      have hlen : (l.map (List.map altP)).length = l.length := by simp
      refine up_ind l.length (fun i => Ev (fun k => impl_PatternParts.l0 k s (l.map (List.map altP)) ((l.map (List.map altP)).length : Int) (i : Int)) (partsL s (l.drop i))) ?_ ?_ 0 (by omega)
      · rw [List.drop_length, hlen]
        exact ev_step (fun _ => impl_PatternParts.l0.eq_2 ..) (ev_neg (by omega) (ev_now _))
      · intro i h ih
        have hl := h1 _ (List.getElem_mem h)
        refine ev_step (fun _ => impl_PatternParts.l0.eq_2 ..) (ev_pos (by omega) (ev_pos (by omega) (ev_pos (by omega) ?_)))
        rw [hrd i h, List.drop_eq_getElem_cons h, w64n h (by omega)]
        simp only [partsL]
        have hp : impl_parts.f (l[i].map altP) s = if fitP s (l[i].map altP) 0 = true then some (partP s (l[i].map altP) 0, true) else some ([], false) := by
          unfold impl_parts.f
          rw [if_pos (by simp; omega), if_pos (by omega)]
        by_cases hb : fitP s (l[i].map altP) 0 = true
        · rw [if_pos hb] at hp ⊢
          exact ev_bind (ev_eq hp) (ev_pos rfl (ev_now _))
        · rw [if_neg hb] at hp ⊢
          exact ev_bind (ev_eq hp) (ev_neg (by decide) ih)
  · rw [if_neg h]
    exact ev_step (fun _ => impl_PatternParts.j0.eq_2 ..) (ev_pos rfl (ev_now _))
theorem partP_len (s : ByteArray) : ∀ (l : List S131) (i : Nat), (partP s l i).length ≤ l.length := by
  intro l
  induction l with
  | nil => intro i; exact Nat.le_refl _
  | cons x l ih =>
    intro i
    simp only [partP]
    split
    · simp only [List.length_cons]
      have := ih (nxtF (fitP s l) (s.size - i) i)
      omega
    · have := ih (i + 1)
      simp only [List.length_cons]
      omega
theorem partsL_len (s : ByteArray) (l : List (List Int)) (h : ∀ x ∈ l, x.length ≤ 100) : (partsL s l).1.length ≤ 100 := by
  induction l with
  | nil => simp [partsL]
  | cons a l ih =>
    simp only [partsL]
    split
    · have h1 := partP_len s (a.map altP) 0
      have h2 := h a (List.mem_cons_self ..)
      rw [List.length_map] at h1
      show (partP s (a.map altP) 0).length ≤ 100
      omega
    · exact ih (fun x hx => h x (List.mem_cons_of_mem _ hx))
theorem ppL_len (p s : ByteArray) : (ppL p s).1.length ≤ 100 := by
  unfold ppL
  split
  · split
    · exact partsL_len s _ (patA_len p).1
    · simp
  · simp
end Go.Proofs.Ytnnlgbpfdnaalaa.U
namespace Go.Proofs.Ytnnlgbpfdnaalaa.U
open Go.RowKit Go.Proofs.Ytnnlgbpfdnaalaa.Pr Go.Proofs.YtnnlgbpfdnaalaaW.PrintWords Go.Proofs.YtnnlgbpfdnaalaaW.PrintLast Go.Proofs.YtnnlgbpfdnaalaaW.PrintMore
set_option linter.unusedVariables false
set_option linter.unusedSimpArgs false
theorem markText_l (m : Nat) : ∀ (c : Int) (s : ByteArray), 0 ≤ c → c < 10 ^ m → c ≤ 9223372036854775807 → s.size + m < 1000 → ∃ r, Ev (fun k => laws_markText.l0 k c s) r := by
  induction m with
  | zero =>
    intro c s h0 h1 _ h2
    simp at h1
    have hs : 1 + s.size ≤ 9223372036854775807 := by omega
    exact ⟨_, ev_step (fun _ => laws_markText.l0.eq_2 ..) (ev_neg (by omega) (ev_pos hs (ev_now _)))⟩
  | succ m ih =>
    intro c s h0 h1 h1' h2
    by_cases hc : c > 0
    · rw [Int.pow_succ] at h1
      have e : wrap64 (Int.tdiv c 10) = c / 10 := by rw [Int.tdiv_eq_ediv_of_nonneg h0, w64 (by omega) (by omega)]
      have hz : ∀ x : Int, (strOfNums [x]).size = 1 := fun x => strOfNums_size [x]
      obtain ⟨r, hr⟩ := ih (c / 10) (strOfNums [wrap64 (48 + Int.tmod c 10) % 256] ++ s) (by omega) (by generalize (10 : Int) ^ m = p at h1 ⊢; omega) (by omega) (by rw [ByteArray.size_append, hz]; omega)
      refine ⟨r, ev_step (fun _ => laws_markText.l0.eq_2 ..) (ev_pos hc (ev_some (ev_pos (by rw [hz]; omega) ?_)))⟩
      rw [e]
      exact hr
    · have hs : 1 + s.size ≤ 9223372036854775807 := by omega
      exact ⟨_, ev_step (fun _ => laws_markText.l0.eq_2 ..) (ev_neg hc (ev_pos hs (ev_now _)))⟩
theorem markText (c : Int) (h0 : 0 < c) (h1 : c ≤ 9223372036854775807) : ∃ r, Ev (fun k => laws_markText.f k c) r := by
  obtain ⟨r, hr⟩ := markText_l 19 c ⟨#[]⟩ (by omega) (Int.lt_of_le_of_lt h1 (by decide)) h1 (by decide)
  refine ⟨r, ?_⟩
  unfold laws_markText.f
  exact ev_neg (by omega) hr
end Go.Proofs.Ytnnlgbpfdnaalaa.U
namespace Go.Proofs.Ytnnlgbpfdnaalaa.U
open Go.RowKit Go.Proofs.Ytnnlgbpfdnaalaa.Pr Go.Proofs.YtnnlgbpfdnaalaaW.PrintWords Go.Proofs.YtnnlgbpfdnaalaaW.PrintLast Go.Proofs.YtnnlgbpfdnaalaaW.PrintMore
set_option linter.unusedVariables false
set_option linter.unusedSimpArgs false
theorem eqStringS (l : List ByteArray) (hl : l.length ≤ 1048576) : Ev (fun k => laws_eqStringS.f k l l) true := by
  unfold laws_eqStringS.f
  refine ev_pos rfl ?_
  refine up_ind l.length (fun i => Ev (fun k => laws_eqStringS.l0 k l l (i : Int)) true) ?_ ?_ 0 (by omega)
  · refine ev_step (fun _ => laws_eqStringS.l0.eq_2 ..) ?_
    refine ev_neg (by omega) ?_
    exact ev_now _
  · intro i h ih
    refine ev_step (fun _ => laws_eqStringS.l0.eq_2 ..) ?_
    repeat (first | (with_reducible refine ev_pos (by first | omega | rfl | decide) ?_) | (with_reducible refine ev_neg (by first | omega | decide) ?_))
    rw [w64n h (by omega)]
    exact ih
theorem markStringS (l : List ByteArray) (hl : l.length ≤ 1048576) (c : Int) (h0 : 0 < c) (h1 : c ≤ 4611686018427387904) : ∃ y c', Ev (fun k => laws_markStringS.f k l c) (c', y) ∧ Ev (fun k => laws_heldStringS.f k y c) c' ∧ c ≤ c' ∧ c' ≤ c + 1 * l.length := by
  have key := up_ind l.length (fun i => ∀ (x : List ByteArray) (c : Int), x.length = l.length → 0 < c → c + 1 * (l.length - i : Nat) ≤ 9000000000000000000 → ∃ y c', Ev (fun k => laws_markStringS.l0 k x c (i : Int)) (c', y) ∧ Ev (fun k => laws_heldStringS.l0 k y c (i : Int)) c' ∧ y.length = l.length ∧ (∀ j, j < i → y[j]? = x[j]?) ∧ c ≤ c' ∧ c' ≤ c + 1 * (l.length - i : Nat)) ?d ?s 0 (by omega) l c rfl h0 (by omega)
  case d =>
    intro x c hx h0 h1
    refine ⟨x, c, ev_step (fun _ => laws_markStringS.l0.eq_2 ..) (ev_neg (by omega) (ev_now _)), ev_step (fun _ => laws_heldStringS.l0.eq_2 ..) (ev_neg (by omega) (ev_now _)), hx, fun _ _ => rfl, by omega, by omega⟩
  case s =>
    intro i h ih x c hx h0 h1
    obtain ⟨s, es⟩ := markText c h0 (by omega)
    obtain ⟨y, c', e1, e2, hy, hj, q1, q2⟩ := ih (x.set i s) (c + 1) (by simp [hx]) (by omega) (by omega)
    refine ⟨y, c', ev_step (fun _ => laws_markStringS.l0.eq_2 ..) ?_, ev_step (fun _ => laws_heldStringS.l0.eq_2 ..) ?_, hy, fun j h' => ?_, by omega, by omega⟩
    · repeat (first | (with_reducible refine ev_pos (by first | omega | rfl | decide) ?_) | (with_reducible refine ev_neg (by first | omega | decide) ?_))
      refine ev_bind es ?_
      repeat (first | (with_reducible refine ev_pos (by first | omega | rfl | decide) ?_) | (with_reducible refine ev_neg (by first | omega | decide) ?_))
      rw [w64 (x := c + 1) (by omega) (by omega), w64n h (by omega), Int.toNat_natCast]
      exact e1
    · repeat (first | (with_reducible refine ev_pos (by first | omega | rfl | decide) ?_) | (with_reducible refine ev_neg (by first | omega | decide) ?_))
      have ey : rdOf ByteArray.empty y (i : Int) = s := by
        have := hj i (by omega)
        rw [List.getElem?_set_self (by omega), List.getElem?_eq_getElem (by omega)] at this
        rw [rdOf_at (by omega)]
        exact Option.some.inj this
      rw [ey]
      refine ev_bind es (ev_pos rfl ?_)
      rw [w64 (x := c + 1) (by omega) (by omega), w64n h (by omega)]
      exact e2
    · rw [hj j (by omega), List.getElem?_set_ne (by omega)]
  obtain ⟨y, c', e1, e2, _, _, q1, q2⟩ := key
  exact ⟨y, c', e1, e2, q1, by omega⟩
end Go.Proofs.Ytnnlgbpfdnaalaa.U

