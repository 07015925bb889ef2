/- Plain lemmas over the printed functions, for the law FnExactRelabelText; each theorem states its own conditions. -/
import Derived.Test.YtknlgignjbghkaaDoorPrx0
import Derived.Test.YtknlgignjbghkaaDoorPrxg2cfb1n1
import Derived.Test.YtknlgignjbghkaaDoorPrxgd0f04n1
import Derived.Test.YtknlgignjbghkaaDoorPrxged182n1
import Derived.Test.YtknlgignjbghkaaDoorPrxged182n2
import Derived.Test.YtknlgignjbghkaaDoorPrxged182n3
import Derived.Test.YtknlgignjbghkaaDoorPrxged182n4
import Derived.Test.YtknlgignjbghkaaDoorPrxged182n5
namespace Go.Proofs.YtknlgignjbghkaaDoor.U
open Go.RowKit Go.Proofs.YtknlgignjbghkaaDoor.Pr Go.Proofs.YtknlgignjbghkaaDoorW.PrintWords Go.Proofs.YtknlgignjbghkaaDoorW.PrintLast Go.Proofs.YtknlgignjbghkaaDoorW.PrintMore
set_option linter.unusedVariables false
set_option linter.unusedSimpArgs false
/-! Words for plain proofs over the printed functions: from some number of rounds on; loops that go up; ranges. -/
theorem w64 {x : Int} (h0 : -9223372036854775808 ≤ x) (h1 : x ≤ 9223372036854775807) : wrap64 x = x := by unfold wrap64; omega
theorem w64n {i n : Nat} (h : i < n) (hn : n ≤ 9223372036854775807) : wrap64 ((i : Int) + 1) = ((i + 1 : Nat) : Int) := by unfold wrap64; omega
theorem ev_now {α : Type} (r : α) : Ev (fun _ => some r) r := Ev.now r
theorem ev_eq {α : Type} {g : Option α} {r : α} (h : g = some r) : Ev (fun _ => g) r := ⟨0, fun _ _ => h⟩
theorem ev_pos {α : Type} {c : Prop} [Decidable c] {a b : Nat → Option α} {r : α} (h : c) (e : Ev a r) : Ev (fun k => if c then a k else b k) r := by
 obtain ⟨K, e⟩ := e
 exact ⟨K, fun k hk => (if_pos h).trans (e k hk)⟩
theorem ev_neg {α : Type} {c : Prop} [Decidable c] {a b : Nat → Option α} {r : α} (h : ¬ c) (e : Ev b r) : Ev (fun k => if c then a k else b k) r := by
 obtain ⟨K, e⟩ := e
 exact ⟨K, fun k hk => (if_neg h).trans (e k hk)⟩
theorem ev_ite {α : Type} {c : Prop} [Decidable c] {a b : Nat → Option α} {r : α} (h : c → Ev a r) (h' : ¬ c → Ev b r) : Ev (fun k => if c then a k else b k) r := by
 by_cases hc : c
 ·exact ev_pos hc (h hc)
 ·exact ev_neg hc (h' hc)
theorem ev_bind {α β : Type} {g : Nat → Option α} {f : Nat → α → Option β} {a : α} {r : β} (h : Ev g a) (k : Ev (fun n => f n a) r) : Ev (fun n => (g n).bind (f n)) r := Ev.bind h k
theorem ev_some {α β : Type} {f : Nat → α → Option β} {a : α} {r : β} (k : Ev (fun n => f n a) r) : Ev (fun n => (some a).bind (f n)) r := Ev.bind (Ev.now a) k
theorem ev_step {α : Type} {g f : Nat → Option α} {r : α} (h : ∀ k, g (k + 1) = f k) (k : Ev f r) : Ev g r := Ev.step h k
theorem ev_one {α : Type} {g : Nat → Option α} {r q : α} (h : Ev g r) (h' : Ev g q) : r = q := by
 obtain ⟨K, h⟩ := h
 obtain ⟨K', h'⟩ := h'
 exact Option.some.inj ((h (max K K') (Nat.le_max_left _ _)).symm.trans (h' _ (Nat.le_max_right _ _)))
/-- What holds at the end and goes down a round, holds at each round. -/
theorem up_ind (n : Nat) (Q : Nat → Prop) (done : Q n) (step : ∀ i, i < n → Q (i + 1) → Q i) : ∀ i, i ≤ n → Q i := by
 have key : ∀ d i, i + d = n → Q i := by
  intro d
  induction d with
  | zero =>
   intro i h
   have e : i = n := by omega
   rw [e]
   exact done
  | succ d ih => intro i h; exact step i (by omega) (ih (i + 1) (by omega))
 exact fun i h => key (n - i) i (by omega)
theorem getD_lt {α : Type} {l : List α} {d : α} {i : Nat} (h : i < l.length) : l.getD ((i : Int).toNat) d = l[i] := by
 rw [Int.toNat_natCast, List.getD_eq_getElem?_getD, List.getElem?_eq_getElem h]
 rfl
theorem rd_at {l : List Int} {i : Nat} (h : i < l.length) : rd l (i : Int) = l[i] := getD_lt h
theorem rdOf_at {α : Type} {d : α} {l : List α} {i : Nat} (h : i < l.length) : rdOf d l (i : Int) = l[i] := getD_lt h
/-- A loop that writes a row anew, element by element. -/
theorem ev_copy {α β : Type} (F : Nat → List β → Int → Option (List β)) (cv : α → β) (l : List α) (x : List β) (hx : x.length = l.length)
  (step : ∀ (i : Nat) (h : i < l.length) (y r : List β), y.length = l.length → Ev (fun k => F k (y.set i (cv l[i])) ((i + 1 : Nat) : Int)) r → Ev (fun k => F k y (i : Int)) r)
  (done : ∀ y : List β, y.length = l.length → Ev (fun k => F k y (l.length : Int)) y) : Ev (fun k => F k x 0) (l.map cv) := by
 refine up_ind l.length (fun i => ∀ y : List β, y.length = l.length → (∀ j, j < i → y[j]? = (l.map cv)[j]?) → Ev (fun k => F k y (i : Int)) (l.map cv)) ?_ ?_ 0 (by omega) x hx (fun j hj => by omega)
 ·intro y hy h
  have e : y = l.map cv := by
   apply List.ext_getElem?
   intro j
   by_cases hj : j < l.length
   ·exact h j hj
   ·rw [List.getElem?_eq_none (by omega), List.getElem?_eq_none (by simp; omega)]
  have d := done y hy
  rw [e] at d ⊢
  exact d
 ·intro i hi ih y hy h
  refine step i hi y _ hy (ih _ (by simp [hy]) (fun j hj => ?_))
  by_cases e : j = i
  ·subst e
   rw [List.getElem?_set_self (by omega), List.getElem?_map, List.getElem?_eq_getElem hi]
   rfl
  ·rw [List.getElem?_set_ne (Ne.symm e)]
   exact h j (by omega)
end Go.Proofs.YtknlgignjbghkaaDoor.U
namespace Go.Proofs.YtknlgignjbghkaaDoor.U
open Go.RowKit Go.Proofs.YtknlgignjbghkaaDoor.Pr Go.Proofs.YtknlgignjbghkaaDoorW.PrintWords Go.Proofs.YtknlgignjbghkaaDoorW.PrintLast Go.Proofs.YtknlgignjbghkaaDoorW.PrintMore
set_option linter.unusedVariables false
set_option linter.unusedSimpArgs false
/-- A string's bytes. -/
abbrev Y (s : ByteArray) : List UInt8 := s.data.toList
theorem Y_eq {s : ByteArray} : s.toList = Y s := ByteArray.toList_eq s
theorem Y_len (s : ByteArray) : (Y s).length = s.size := Array.length_toList
theorem Y_inj {s t : ByteArray} (h : Y s = Y t) : s = t := by
 cases s
 cases t
 congr
 exact Array.toList_inj.1 h
theorem bt_at {s : ByteArray} {i : Nat} (h : i < s.size) : bt s (i : Int) = (((Y s)[i]'(by rw [Y_len]; exact h)).toNat : Int) := by
 unfold bt
 rw [dif_pos (show ((i : Int)).toNat < s.size from by omega)]
 rfl
theorem Y_drop {s : ByteArray} {i : Nat} (h : i < s.size) : (Y s).drop i = (Y s)[i]'(by rw [Y_len]; exact h) :: (Y s).drop (i + 1) := List.drop_eq_getElem_cons _
theorem Y_drop_end (s : ByteArray) : (Y s).drop s.size = [] := by rw [← Y_len, List.drop_length]
def digC (c : UInt8) : Bool := decide (48 ≤ (c.toNat : Int)) && decide ((c.toNat : Int) ≤ 57)
def letC (c : UInt8) : Bool := decide (97 ≤ (c.toNat : Int)) && decide ((c.toNat : Int) ≤ 122) || decide (65 ≤ (c.toNat : Int)) && decide ((c.toNat : Int) ≤ 90)
def wordC (c : UInt8) : Bool := letC c || digC c || decide ((c.toNat : Int) = 95)
def prC (c : UInt8) : Bool := decide (32 ≤ (c.toNat : Int)) && decide ((c.toNat : Int) ≤ 126)
/-- A name: at most 40 letters, digits and _, no digit first. -/
def nameL (l : List UInt8) : Bool := decide (1 ≤ l.length) && decide (l.length ≤ 40) && !(l.head?.any digC) && l.all wordC
def prL (n : Nat) (l : List UInt8) : Bool := decide (l.length ≤ n) && l.all prC
end Go.Proofs.YtknlgignjbghkaaDoor.U
namespace Go.Proofs.YtknlgignjbghkaaDoor.U
open Go.RowKit Go.Proofs.YtknlgignjbghkaaDoor.Pr Go.Proofs.YtknlgignjbghkaaDoorW.PrintWords Go.Proofs.YtknlgignjbghkaaDoorW.PrintLast Go.Proofs.YtknlgignjbghkaaDoorW.PrintMore
set_option linter.unusedVariables false
set_option linter.unusedSimpArgs false
theorem printed_spec (s : ByteArray) (hs : s.size ≤ 9223372036854775807) : Ev (fun k => spec_l2Printed.f k s) ((Y s).all prC) := by
 refine up_ind s.size (fun i => Ev (fun k => spec_l2Printed.l0 k s (i : Int)) (((Y s).drop i).all prC)) ?_ ?_ 0 (by omega)
 ·rw [Y_drop_end]
  exact ev_step (fun _ => spec_l2Printed.l0.eq_2 ..) (ev_neg (by omega) (ev_now _))
 ·intro i h ih
  refine ev_step (fun _ => spec_l2Printed.l0.eq_2 ..) (ev_pos (by omega) (ev_pos (by omega) ?_))
  rw [bt_at h, Y_drop h, List.all_cons, w64n h hs]
  unfold prC
  refine ev_ite (fun h1 => ?_) (fun h1 => ev_ite (fun h2 => ?_) (fun h2 => ?_))
  ·rw [decide_eq_false (by omega)]
   exact ev_now _
  ·rw [decide_eq_false (show ¬ _ ≤ (126 : Int) from by omega), Bool.and_false, Bool.false_and]
   exact ev_now _
  ·rw [decide_eq_true (by omega), decide_eq_true (by omega)]
   exact ih
theorem printed_impl (s : ByteArray) (hs : s.size ≤ 9223372036854775807) (n : Nat) : Ev (fun k => impl_printed.f k s (n : Int)) (prL n (Y s)) := by
 unfold impl_printed.f prL
 rw [Y_len]
 refine ev_ite (fun h => ?_) (fun h => ?_)
 ·rw [decide_eq_false (by omega)]
  exact ev_now _
 ·rw [decide_eq_true (by omega), Bool.true_and]
  refine up_ind s.size (fun i => Ev (fun k => impl_printed.l0 k s (s.size : Int) (i : Int)) (((Y s).drop i).all prC)) ?_ ?_ 0 (by omega)
  ·rw [Y_drop_end]
   exact ev_step (fun _ => impl_printed.l0.eq_2 ..) (ev_neg (by omega) (ev_now _))
  ·intro i h ih
   refine ev_step (fun _ => impl_printed.l0.eq_2 ..) (ev_pos (by omega) (ev_pos (by omega) (ev_pos (by omega) ?_)))
   rw [bt_at h, Y_drop h, List.all_cons, w64n h hs]
   unfold prC
   refine ev_ite (fun h1 => ?_) (fun h1 => ev_ite (fun h2 => ?_) (fun h2 => ?_))
   ·rw [decide_eq_false (by omega)]
    exact ev_now _
   ·rw [decide_eq_false (show ¬ _ ≤ (126 : Int) from by omega), Bool.and_false, Bool.false_and]
    exact ev_now _
   ·rw [decide_eq_true (by omega), decide_eq_true (by omega)]
    exact ih
end Go.Proofs.YtknlgignjbghkaaDoor.U
namespace Go.Proofs.YtknlgignjbghkaaDoor.U
open Go.RowKit Go.Proofs.YtknlgignjbghkaaDoor.Pr Go.Proofs.YtknlgignjbghkaaDoorW.PrintWords Go.Proofs.YtknlgignjbghkaaDoorW.PrintLast Go.Proofs.YtknlgignjbghkaaDoorW.PrintMore
set_option linter.unusedVariables false
set_option linter.unusedSimpArgs false
theorem digit_impl (c : UInt8) : impl_digitByte.f (c.toNat : Int) = some (digC c) := by
 unfold impl_digitByte.f digC
 by_cases h : (c.toNat : Int) ≥ 48
 ·rw [if_pos h, decide_eq_true (show 48 ≤ (c.toNat : Int) from h), Bool.true_and]
 ·rw [if_neg h, decide_eq_false (show ¬ 48 ≤ (c.toNat : Int) from h), Bool.false_and]
theorem digit_spec (c : UInt8) : spec_l2Digit.f (c.toNat : Int) = some (digC c) := by
 unfold spec_l2Digit.f digC
 by_cases h : (c.toNat : Int) ≥ 48
 ·rw [if_pos h, decide_eq_true (show 48 ≤ (c.toNat : Int) from h), Bool.true_and]
 ·rw [if_neg h, decide_eq_false (show ¬ 48 ≤ (c.toNat : Int) from h), Bool.false_and]
theorem letter_impl (c : UInt8) : impl_letterByte.f (c.toNat : Int) = some (letC c) := by
 unfold impl_letterByte.f letC
 by_cases h : (c.toNat : Int) ≥ 97 <;> by_cases h1 : (c.toNat : Int) ≤ 122 <;> by_cases h2 : (c.toNat : Int) ≥ 65 <;> by_cases h3 : (c.toNat : Int) ≤ 90 <;> simp [h, h1, h2, h3] <;> omega
theorem letter_spec (c : UInt8) : spec_l2Letter.f (c.toNat : Int) = some (letC c) := by
 unfold spec_l2Letter.f letC
 by_cases h : (c.toNat : Int) ≥ 97 <;> by_cases h1 : (c.toNat : Int) ≤ 122 <;> by_cases h2 : (c.toNat : Int) ≥ 65 <;> by_cases h3 : (c.toNat : Int) ≤ 90 <;> simp [h, h1, h2, h3] <;> omega
theorem word_impl (c : UInt8) : impl_wordByte.f (c.toNat : Int) = some (wordC c) := by
 unfold impl_wordByte.f wordC
 rw [letter_impl, digit_impl]
 cases letC c <;> cases digC c <;> simp <;> rfl
theorem name_loop_impl (s : ByteArray) (hs : s.size ≤ 9223372036854775807) : Ev (fun k => impl_isName.l0 k s (s.size : Int) 0) ((Y s).all wordC) := by
 refine up_ind s.size (fun i => Ev (fun k => impl_isName.l0 k s (s.size : Int) (i : Int)) (((Y s).drop i).all wordC)) ?_ ?_ 0 (by omega)
 ·rw [Y_drop_end]
  exact ev_step (fun _ => impl_isName.l0.eq_2 ..) (ev_neg (by omega) (ev_now _))
 ·intro i h ih
  refine ev_step (fun _ => impl_isName.l0.eq_2 ..) (ev_pos (by omega) (ev_pos (by omega) (ev_pos (by omega) ?_)))
  rw [bt_at h, Y_drop h, List.all_cons, w64n h hs]
  refine ev_bind (ev_eq (word_impl _)) (ev_ite (fun h1 => ?_) (fun h1 => ?_))
  ·rw [h1]
   exact ih
  ·rw [Bool.eq_false_iff.2 h1]
   exact ev_now _
theorem name_loop_spec (s : ByteArray) (hs : s.size ≤ 9223372036854775807) : Ev (fun k => spec_l2Name.l0 k s 0) ((Y s).all wordC) := by
 refine up_ind s.size (fun i => Ev (fun k => spec_l2Name.l0 k s (i : Int)) (((Y s).drop i).all wordC)) ?_ ?_ 0 (by omega)
 ·rw [Y_drop_end]
  exact ev_step (fun _ => spec_l2Name.l0.eq_2 ..) (ev_neg (by omega) (ev_now _))
 ·intro i h ih
  refine ev_step (fun _ => spec_l2Name.l0.eq_2 ..) (ev_pos (by omega) (ev_pos (by omega) ?_))
  rw [bt_at h, Y_drop h, List.all_cons, w64n h hs]
  unfold wordC
  refine ev_bind (ev_eq (letter_spec _)) (ev_ite (fun h1 => ?_) (fun h1 => ev_bind (ev_eq (digit_spec _)) (ev_ite (fun h2 => ?_) (fun h2 => ev_ite (fun h3 => ?_) (fun h3 => ?_)))))
  ·rw [h1]
   exact ih
  ·rw [h2, Bool.or_true]
   exact ih
  ·rw [decide_eq_true h3, Bool.or_true]
   exact ih
  ·rw [Bool.eq_false_iff.2 h1, Bool.eq_false_iff.2 h2, decide_eq_false h3]
   exact ev_now _
theorem name_impl (s : ByteArray) (hs : s.size ≤ 9223372036854775807) : Ev (fun k => impl_isName.f k s) (nameL (Y s)) := by
 unfold impl_isName.f nameL
 rw [Y_eq]
 refine ev_ite (fun h => ?_) (fun h => ?_)
 ·rw [h]
  exact ev_step (fun _ => impl_isName.j0.eq_2 ..) (ev_pos rfl (ev_now _))
 ·have hl : 1 ≤ (Y s).length := by
   cases e : Y s with
   | nil => exact absurd e h
   | cons a l => simp
  rw [decide_eq_true hl, Y_len, Bool.true_and]
  rw [Y_len] at hl
  refine ev_ite (fun h1 => ?_) (fun h1 => ev_pos (by omega) ?_)
  ·rw [decide_eq_false (by omega)]
   exact ev_step (fun _ => impl_isName.j0.eq_2 ..) (ev_pos rfl (ev_now _))
  ·rw [decide_eq_true (by omega), Bool.true_and]
   have e0 := bt_at (s := s) (i := 0) (by omega)
   have eh : (Y s).head? = some ((Y s)[0]'(by rw [Y_len]; omega)) := by rw [List.head?_eq_getElem?, List.getElem?_eq_getElem]
   rw [show bt s 0 = bt s ((0 : Nat) : Int) from rfl, e0, eh]
   refine ev_bind (ev_eq (digit_impl _)) (ev_step (fun _ => impl_isName.j0.eq_2 ..) (ev_ite (fun h2 => ?_) (fun h2 => ?_)))
   ·rw [Option.any_some, h2]
    exact ev_now _
   ·rw [Option.any_some, Bool.eq_false_iff.2 h2]
    exact name_loop_impl s hs
theorem name_spec (s : ByteArray) (hs : s.size ≤ 9223372036854775807) : Ev (fun k => spec_l2Name.f k s) (nameL (Y s)) := by
 unfold spec_l2Name.f nameL
 rw [Y_len]
 refine ev_ite (fun h => ?_) (fun h => ?_)
 ·rw [decide_eq_false (by omega)]
  exact ev_step (fun _ => spec_l2Name.j0.eq_2 ..) (ev_pos rfl (ev_now _))
 ·rw [decide_eq_true (by omega), Bool.true_and]
  refine ev_ite (fun h1 => ?_) (fun h1 => ev_pos (by omega) ?_)
  ·rw [decide_eq_false (by omega)]
   exact ev_step (fun _ => spec_l2Name.j0.eq_2 ..) (ev_pos rfl (ev_now _))
  ·rw [decide_eq_true (by omega), Bool.true_and]
   have e0 := bt_at (s := s) (i := 0) (by omega)
   have eh : (Y s).head? = some ((Y s)[0]'(by rw [Y_len]; omega)) := by rw [List.head?_eq_getElem?, List.getElem?_eq_getElem]
   rw [show bt s 0 = bt s ((0 : Nat) : Int) from rfl, e0, eh]
   refine ev_bind (ev_eq (digit_spec _)) (ev_step (fun _ => spec_l2Name.j0.eq_2 ..) (ev_ite (fun h2 => ?_) (fun h2 => ?_)))
   ·rw [Option.any_some, h2]
    exact ev_now _
   ·rw [Option.any_some, Bool.eq_false_iff.2 h2]
    exact name_loop_spec s hs
end Go.Proofs.YtknlgignjbghkaaDoor.U
namespace Go.Proofs.YtknlgignjbghkaaDoor.U
open Go.RowKit Go.Proofs.YtknlgignjbghkaaDoor.Pr Go.Proofs.YtknlgignjbghkaaDoorW.PrintWords Go.Proofs.YtknlgignjbghkaaDoorW.PrintLast Go.Proofs.YtknlgignjbghkaaDoorW.PrintMore
set_option linter.unusedVariables false
set_option linter.unusedSimpArgs false
/-- What both programs' GoodPattern answer. -/
def patB (s : ByteArray) : Bool := prL 100 (Y s) && (altA s 0 [] []).2
/-- A pattern's alternatives, as codes. -/
def patA (s : ByteArray) : List (List Int) := if prL 100 (Y s) = true then (altA s 0 [] []).1 else []
theorem prL_size {s : ByteArray} {n : Nat} (h : prL n (Y s) = true) : s.size ≤ n := by
 unfold prL at h
 rw [Y_len, Bool.and_eq_true, decide_eq_true_eq] at h
 exact h.1
theorem alt_spec (s : ByteArray) (hs : s.size ≤ 9223372036854775807) : Ev (fun k => spec_l2Alternatives.f k s) (patA s, patB s) := by
 unfold spec_l2Alternatives.f patB patA prL
 rw [Y_len]
 refine ev_ite (fun h => ?_) (fun h => ?_)
 ·rw [decide_eq_false (by omega), Bool.false_and, Bool.false_and, if_neg (by decide)]
  exact ev_now _
 ·rw [decide_eq_true (by omega), Bool.true_and]
  refine ev_bind (printed_spec s hs) (ev_ite (fun h1 => ?_) (fun h1 => ?_))
  ·rw [h1, Bool.true_and, if_pos rfl]
   exact ev_now _
  ·rw [Bool.eq_false_iff.2 h1, Bool.false_and, if_neg (by decide)]
   exact ev_now _
theorem alt_impl (s : ByteArray) (hs : s.size ≤ 9223372036854775807) : Ev (fun k => impl_alternatives.f k s) ((patA s).map (List.map altP), patB s) := by
 unfold impl_alternatives.f patB patA
 refine ev_bind (printed_impl s hs 100) (ev_ite (fun h1 => ?_) (fun h1 => ?_))
 ·have h2 := prL_size h1
  rw [h1, Bool.true_and, if_pos rfl]
  exact ev_pos (by omega) (ev_now _)
 ·rw [Bool.eq_false_iff.2 h1, Bool.false_and, if_neg (by decide)]
  exact ev_now _
theorem pat_spec (s : ByteArray) (hs : s.size ≤ 9223372036854775807) : Ev (fun k => spec_GoodPattern.f k s) (patB s) := by
 unfold spec_GoodPattern.f
 exact ev_bind (alt_spec s hs) (ev_now _)
theorem pat_impl (s : ByteArray) (hs : s.size ≤ 9223372036854775807) : Ev (fun k => impl_GoodPattern.f k s) (patB s) := by
 unfold impl_GoodPattern.f
 exact ev_bind (alt_impl s hs) (ev_now _)
end Go.Proofs.YtknlgignjbghkaaDoor.U
namespace Go.Proofs.YtknlgignjbghkaaDoor.U
open Go.RowKit Go.Proofs.YtknlgignjbghkaaDoor.Pr Go.Proofs.YtknlgignjbghkaaDoorW.PrintWords Go.Proofs.YtknlgignjbghkaaDoorW.PrintLast Go.Proofs.YtknlgignjbghkaaDoorW.PrintMore
set_option linter.unusedVariables false
set_option linter.unusedSimpArgs false
theorem any_all_String {α : Type} (P : Nat → α → Option Bool) (p : α → Bool) : ∀ l : List α, (∀ x ∈ l, Ev (fun k => P k x) (p x)) → ∃ K, ∀ k, K ≤ k → ∀ x ∈ l, P k x = some (p x) := by
 intro l
 induction l with
 | nil => intro _; exact ⟨0, fun _ _ _ h => by cases h⟩
 | cons y l ih =>
  intro h
  obtain ⟨K, h1⟩ := ih (fun x hx => h x (List.mem_cons_of_mem _ hx))
  obtain ⟨K', h2⟩ := h y (List.mem_cons_self ..)
  refine ⟨max K K', fun k hk x hx => ?_⟩
  rcases List.mem_cons.1 hx with rfl | hx
  ·exact h2 k (by omega)
  ·exact h1 k (by omega) x hx
theorem any_at_String (P : ByteArray → Option Bool) (p : ByteArray → Bool) (l : List ByteArray) (hl : l.length ≤ 9223372036854775807) (h : ∀ x ∈ l, P x = some (p x)) : ∀ (d k i : Nat), i + d = l.length → d < k → ∃ r, slices_IndexFunc_string_string.l0 P l k (i : Int) = some r ∧ decide (0 ≤ r) = (l.drop i).any p := by
 have hrd : ∀ (i : Nat) (h : i < l.length), rdOf ByteArray.empty l (i : Int) = l[i] := fun i h => getD_lt h
 intro d
 induction d with
 | zero =>
  intro k i h1 h2
  obtain ⟨k, rfl⟩ : ∃ m, k = m + 1 := ⟨k - 1, by omega⟩
  simp only [slices_IndexFunc_string_string.l0]
  rw [if_neg (by omega), List.drop_eq_nil_of_le (by omega), List.any_nil]
  exact ⟨-1, rfl, rfl⟩
 | succ d ih =>
  intro k i h1 h2
  obtain ⟨k, rfl⟩ : ∃ m, k = m + 1 := ⟨k - 1, by omega⟩
  have hi : i < l.length := by omega
  have hp : P l[i] = some (p l[i]) := h l[i] (List.getElem_mem hi)
  simp only [slices_IndexFunc_string_string.l0]
  rw [if_pos (by omega), if_pos (by omega), hrd i hi, hp, Option.bind_some, List.drop_eq_getElem_cons hi, List.any_cons, w64n hi (by omega)]
  by_cases hq : p l[i] = true
  ·rw [if_pos hq, hq, Bool.true_or]
   exact ⟨i, rfl, decide_eq_true (by omega)⟩
  ·rw [if_neg hq, Bool.eq_false_iff.2 hq, Bool.false_or]
   exact ih k (i + 1) (by omega) (by omega)
theorem any_String (P : Nat → ByteArray → Option Bool) (p : ByteArray → Bool) (l : List ByteArray) (hl : l.length ≤ 9223372036854775807) (h : ∀ x ∈ l, Ev (fun k => P k x) (p x)) : Ev (fun k => slices_ContainsFunc_string_string.f k (P k) l) (l.any p) := by
 obtain ⟨K, hK⟩ := any_all_String P p l h
 refine ⟨max K (l.length + 1), fun k hk => ?_⟩
 obtain ⟨r, h1, h2⟩ := any_at_String (P k) p l hl (hK k (by omega)) l.length k 0 (by omega) (by omega)
 have h3 : slices_IndexFunc_string_string.f k (P k) l = some r := h1
 show ((slices_IndexFunc_string_string.f k (P k) l).bind fun j => some (decide (0 ≤ j))) = some (l.any p)
 rw [h3, Option.bind_some, h2]
 rfl
end Go.Proofs.YtknlgignjbghkaaDoor.U
namespace Go.Proofs.YtknlgignjbghkaaDoor.U
open Go.RowKit Go.Proofs.YtknlgignjbghkaaDoor.Pr Go.Proofs.YtknlgignjbghkaaDoorW.PrintWords Go.Proofs.YtknlgignjbghkaaDoorW.PrintLast Go.Proofs.YtknlgignjbghkaaDoorW.PrintMore
set_option linter.unusedVariables false
set_option linter.unusedSimpArgs false
theorem toStringS (l : List ByteArray) (hl : (l.length ≤ 1048576 ∧ ∀ y ∈ l, y.size ≤ 1048576)) : Ev (fun k => laws_toStringS.f k l) (l) := by
 obtain ⟨hl, hs⟩ := hl
 unfold laws_toStringS.f
 repeat (first | (with_reducible refine ev_pos (by first | omega | rfl | decide) ?_) | (with_reducible refine ev_neg (by first | omega | decide) ?_))
 have key := ev_copy (F := fun k y i => laws_toStringS.l0 k l y i) (fun x => x) l (List.replicate ((l.length : Int) : Int).toNat (⟨#[]⟩ : ByteArray)) (by simp) ?step ?done
 case step =>
  intro i h y r hy hr
  refine ev_step (fun _ => laws_toStringS.l0.eq_2 ..) ?_
  repeat (first | (with_reducible refine ev_pos (by first | omega | rfl | decide) ?_) | (with_reducible refine ev_neg (by first | omega | decide) ?_))
  rw [rdOf_at h, w64n h (by omega), Int.toNat_natCast]
  exact hr
 case done =>
  intro y hy
  refine ev_step (fun _ => laws_toStringS.l0.eq_2 ..) ?_
  repeat (first | (with_reducible refine ev_pos (by first | omega | rfl | decide) ?_) | (with_reducible refine ev_neg (by first | omega | decide) ?_))
  exact ev_now _
 simpa using key
theorem eqStringS (l : List ByteArray) (hl : l.length ≤ 1048576) : Ev (fun k => laws_eqStringS.f k l l) true := by
 unfold laws_eqStringS.f
 refine ev_pos rfl ?_
 refine up_ind l.length (fun i => Ev (fun k => laws_eqStringS.l0 k l l (i : Int)) true) ?_ ?_ 0 (by omega)
 ·refine ev_step (fun _ => laws_eqStringS.l0.eq_2 ..) ?_
  refine ev_neg (by omega) ?_
  exact ev_now _
 ·intro i h ih
  refine ev_step (fun _ => laws_eqStringS.l0.eq_2 ..) ?_
  repeat (first | (with_reducible refine ev_pos (by first | omega | rfl | decide) ?_) | (with_reducible refine ev_neg (by first | omega | decide) ?_))
  rw [w64n h (by omega)]
  exact ih
theorem szStringS (l : List ByteArray) (c : Int) (h0 : 0 ≤ c) (h1 : c ≤ 1048576) (hl : l.length ≤ maxLen) (hw : ∀ x ∈ l, x.size ≤ maxLen) : ∃ r, Ev (fun k => laws_szStringS.f k l c) r ∧ r ≤ c ∧ (0 ≤ r → (l.length ≤ 1048576 ∧ ∀ y ∈ l, y.size ≤ 1048576)) := by
 simp only [maxLen] at hl
 unfold laws_szStringS.f
 rw [w64 (x := c - (l.length : Int)) (by omega) (by omega)]
 by_cases hn : c - (l.length : Int) < 0
 ·exact ⟨-1, ev_pos hn (ev_now _), by omega, fun h => absurd h (by decide)⟩
 ·have key := up_ind l.length (fun i => ∀ c : Int, 0 ≤ c → c ≤ 1048576 → ∃ r, Ev (fun k => laws_szStringS.l0 k l c (i : Int)) r ∧ r ≤ c ∧ (0 ≤ r → ∀ j (h : j < l.length), i ≤ j → l[j].size ≤ 1048576)) ?d ?s 0 (by omega) (c - (l.length : Int)) (by omega) (by omega)
  case d => exact fun c h0 h1 => ⟨c, ev_step (fun _ => laws_szStringS.l0.eq_2 ..) (ev_neg (by omega) (ev_now _)), Int.le_refl _, fun _ j h hj => by omega⟩
  case s =>
   intro i h ih c h0 h1
   have hz := hw _ (List.getElem_mem h)
   simp only [maxLen] at hz
   by_cases hr : c - (l[i].size : Int) < 0
   ·refine ⟨-1, ev_step (fun _ => laws_szStringS.l0.eq_2 ..) ?_, by omega, fun h => absurd h (by decide)⟩
    repeat (first | (with_reducible refine ev_pos (by first | omega | rfl | decide) ?_) | (with_reducible refine ev_neg (by first | omega | decide) ?_))
    rw [rdOf_at h, w64 (x := c - (l[i].size : Int)) (by omega) (by omega)]
    exact ev_pos hr (ev_now _)
   ·obtain ⟨r, e, hrc, hs⟩ := ih (c - (l[i].size : Int)) (by omega) (by omega)
    refine ⟨r, ev_step (fun _ => laws_szStringS.l0.eq_2 ..) ?_, by omega, fun h2 j hj hij => ?_⟩
    ·repeat (first | (with_reducible refine ev_pos (by first | omega | rfl | decide) ?_) | (with_reducible refine ev_neg (by first | omega | decide) ?_))
     rw [rdOf_at h, w64 (x := c - (l[i].size : Int)) (by omega) (by omega)]
     refine ev_neg hr ?_
     rw [w64n h (by omega)]
     exact e
    ·by_cases ej : j = i
     ·subst ej
      omega
     ·exact hs h2 j hj (by omega)
  obtain ⟨r, e, hrc, hs⟩ := key
  refine ⟨r, ev_neg hn e, by omega, fun h => ⟨by omega, fun y hy => ?_⟩⟩
  obtain ⟨j, hj, rfl⟩ := List.getElem_of_mem hy
  exact hs h j hj (by omega)
end Go.Proofs.YtknlgignjbghkaaDoor.U
namespace Go.Proofs.YtknlgignjbghkaaDoor.U
open Go.RowKit Go.Proofs.YtknlgignjbghkaaDoor.Pr Go.Proofs.YtknlgignjbghkaaDoorW.PrintWords Go.Proofs.YtknlgignjbghkaaDoorW.PrintLast Go.Proofs.YtknlgignjbghkaaDoorW.PrintMore
set_option linter.unusedVariables false
set_option linter.unusedSimpArgs false
theorem ev_if {α : Type} {c : Prop} [Decidable c] {a b : Nat → Option α} {x y : α} (h : Ev a x) (h' : Ev b y) : Ev (fun k => if c then a k else b k) (if c then x else y) := by
 by_cases hc : c
 ·rw [if_pos hc]; exact ev_pos hc h
 ·rw [if_neg hc]; exact ev_neg hc h'
def oneL (l : List Int) (a : Int) : Bool := l.any fun y => decide (y = a)
theorem one_index (l : List Int) (hl : l.length ≤ 1048576) (s : Int) : ∃ r, Ev (fun k => slices_Index_int_int.f k l s) r ∧ decide (r ≥ 0) = oneL l s := by
 unfold slices_Index_int_int.f oneL
 refine up_ind l.length (fun i => ∃ r, Ev (fun k => slices_Index_int_int.l0 k l s (l.length : Int) (i : Int)) r ∧ decide (r ≥ 0) = ((l.drop i).any fun y => decide (y = s))) ?_ ?_ 0 (by omega)
 ·rw [List.drop_length]
  exact ⟨-1, ev_step (fun _ => slices_Index_int_int.l0.eq_2 ..) (ev_neg (by omega) (ev_now _)), rfl⟩
 ·intro i h ⟨r, ih, hr⟩
  rw [List.drop_eq_getElem_cons h, List.any_cons]
  by_cases h1 : s = l[i]
  ·refine ⟨i, ev_step (fun _ => slices_Index_int_int.l0.eq_2 ..) (ev_pos (by omega) (ev_pos (by omega) (ev_pos (by omega) ?_))), ?_⟩
   ·rw [rd_at h]
    exact ev_pos h1 (ev_now _)
   ·rw [decide_eq_true h1.symm, decide_eq_true (by omega), Bool.true_or]
  ·refine ⟨r, ev_step (fun _ => slices_Index_int_int.l0.eq_2 ..) (ev_pos (by omega) (ev_pos (by omega) (ev_pos (by omega) ?_))), ?_⟩
   ·rw [rd_at h, w64n h (by omega)]
    exact ev_neg h1 ih
   ·rw [decide_eq_false (show ¬ l[i] = s from fun e => h1 e.symm), Bool.false_or]
    exact hr
theorem one_impl (l : List Int) (hl : l.length ≤ 1048576) (s : Int) : Ev (fun k => impl_isOne.f k s l) (oneL l s) := by
 obtain ⟨r, h1, h2⟩ := one_index l hl s
 unfold impl_isOne.f slices_Contains_int_int.f
 rw [← h2]
 exact ev_bind (ev_bind h1 (ev_now _)) (ev_now _)
theorem fill_l (s : ByteArray) (hs : s.size ≤ 4611686018427387904) : ∀ d i : Nat, i + d = s.size ∨ (d = 0 ∧ s.size ≤ i ∧ i ≤ s.size + 1) → ∃ v, Ev (fun k => impl_isFilling.l0 k s (i : Int)) v ∧ Ev (fun k => spec_l4Filling.l0 k s (i : Int)) v ∧ (s.size ≤ i → v = true) := by
 intro d
 induction d using Nat.strongRecOn with
 | ind d ih =>
  intro i h
  by_cases hi : i < s.size
  ·have e1 : wrap64 ((i : Int) + 1) = ((i + 1 : Nat) : Int) := w64n hi (by omega)
   have e2 : wrap64 ((((i + 1 : Nat)) : Int) + 1) = ((i + 2 : Nat) : Int) := by unfold wrap64; omega
   by_cases c : bt s (i : Int) = 36
   ·by_cases c1 : i + 1 = s.size
    ·refine ⟨false, ?_, ?_, fun hx => by omega⟩
     ·refine ev_step (fun _ => impl_isFilling.l0.eq_2 ..) (ev_pos (by omega) (ev_pos (by omega) (ev_pos c (ev_pos ?_ (ev_now _)))))
      rw [e1]; omega
     ·refine ev_step (fun _ => spec_l4Filling.l0.eq_2 ..) (ev_pos (by omega) (ev_pos (by omega) (ev_pos c (ev_pos ?_ (ev_now _)))))
      rw [e1]; omega
    ·have lead : ∀ v : Bool, (bt s ((i + 1 : Nat) : Int) = 36 → v = v) → True := fun _ _ => trivial
     obtain ⟨v, h1, h2, h3⟩ := ih (d - 2) (by omega) (i + 2) (by omega)
     by_cases c2 : bt s ((i + 1 : Nat) : Int) = 36
     ·refine ⟨v, ?_, ?_, fun hx => by omega⟩
      ·refine ev_step (fun _ => impl_isFilling.l0.eq_2 ..) (ev_pos (by omega) (ev_pos (by omega) (ev_pos c (ev_neg ?_ ?_))))
       ·rw [e1]; omega
       ·rw [e1, e2]
        exact ev_pos (by omega) (ev_pos (by omega) (ev_pos c2 h1))
      ·refine ev_step (fun _ => spec_l4Filling.l0.eq_2 ..) (ev_pos (by omega) (ev_pos (by omega) (ev_pos c (ev_neg ?_ ?_))))
       ·rw [e1]; omega
       ·rw [e1, e2]
        exact ev_pos (by omega) (ev_pos (by omega) (ev_pos c2 h2))
     ·refine ⟨if bt s ((i + 1 : Nat) : Int) < 49 then false else if bt s ((i + 1 : Nat) : Int) > 57 then false else v, ?_, ?_, fun hx => by omega⟩
      ·refine ev_step (fun _ => impl_isFilling.l0.eq_2 ..) (ev_pos (by omega) (ev_pos (by omega) (ev_pos c (ev_neg ?_ ?_))))
       ·rw [e1]; omega
       ·rw [e1, e2]
        exact ev_pos (by omega) (ev_pos (by omega) (ev_neg c2 (ev_if (ev_now _) (ev_if (ev_now _) h1))))
      ·refine ev_step (fun _ => spec_l4Filling.l0.eq_2 ..) (ev_pos (by omega) (ev_pos (by omega) (ev_pos c (ev_neg ?_ ?_))))
       ·rw [e1]; omega
       ·rw [e1, e2]
        exact ev_pos (by omega) (ev_pos (by omega) (ev_neg c2 (ev_if (ev_now _) (ev_if (ev_now _) h2))))
   ·obtain ⟨v, h1, h2, h3⟩ := ih (d - 1) (by omega) (i + 1) (by omega)
    refine ⟨v, ?_, ?_, fun hx => by omega⟩
    ·refine ev_step (fun _ => impl_isFilling.l0.eq_2 ..) (ev_pos (by omega) (ev_pos (by omega) (ev_neg c ?_)))
     rw [e1]; exact h1
    ·refine ev_step (fun _ => spec_l4Filling.l0.eq_2 ..) (ev_pos (by omega) (ev_pos (by omega) (ev_neg c ?_)))
     rw [e1]; exact h2
  ·exact ⟨true, ev_step (fun _ => impl_isFilling.l0.eq_2 ..) (ev_neg (by omega) (ev_now _)), ev_step (fun _ => spec_l4Filling.l0.eq_2 ..) (ev_neg (by omega) (ev_now _)), fun _ => rfl⟩
theorem fill_two (s : ByteArray) (hs : s.size ≤ 4611686018427387904) : ∃ v, Ev (fun k => impl_isFilling.f k s) v ∧ Ev (fun k => spec_l4Filling.f k s) v ∧ (s.toList = [] → v = true) := by
 obtain ⟨v, h1, h2, h3⟩ := fill_l s hs s.size 0 (by omega)
 have hp1 := printed_impl s (by omega) 100
 have hp2 := printed_spec s (by omega)
 by_cases hz : s.size ≤ 100
 ·cases hp : (Y s).all prC with
  | true =>
   refine ⟨v, ?_, ?_, fun he => h3 ?_⟩
   ·unfold impl_isFilling.f
    refine ev_bind hp1 (ev_pos ?_ h1)
    unfold prL; rw [Y_len, hp, decide_eq_true hz]; rfl
   ·unfold spec_l4Filling.f
    refine ev_neg (by omega) (ev_bind hp2 (ev_step (fun _ => spec_l4Filling.j0.eq_2 ..) (ev_neg (by rw [hp]; decide) h2)))
   ·have := Y_len s; rw [show Y s = [] from Y_eq.symm.trans he] at this; simp at this; omega
  | false =>
   refine ⟨false, ?_, ?_, fun he => ?_⟩
   ·unfold impl_isFilling.f
    refine ev_bind hp1 (ev_neg ?_ (ev_now _))
    unfold prL; rw [hp, Bool.and_false]; decide
   ·unfold spec_l4Filling.f
    refine ev_neg (by omega) (ev_bind hp2 (ev_step (fun _ => spec_l4Filling.j0.eq_2 ..) (ev_pos (by rw [hp]; rfl) (ev_now _))))
   ·rw [show Y s = [] from Y_eq.symm.trans he] at hp; cases hp
 ·refine ⟨false, ?_, ?_, fun he => ?_⟩
  ·unfold impl_isFilling.f
   refine ev_bind hp1 (ev_neg ?_ (ev_now _))
   unfold prL; rw [Y_len, decide_eq_false hz, Bool.false_and]; decide
  ·unfold spec_l4Filling.f
   exact ev_pos (by omega) (ev_step (fun _ => spec_l4Filling.j0.eq_2 ..) (ev_pos rfl (ev_now _)))
  ·have := Y_len s; rw [show Y s = [] from Y_eq.symm.trans he] at this; simp at this; omega
section
variable (a : Int) (fr : List ByteArray) (sep pat tg val : ByteArray) (md : Int) (an p1 p2 tn vf : Bool)
def rJ3 (b : Bool) : Bool := if b = true then false else if oneL [5, 6, 7] a = true then (if (fr.length : Int) > 0 then false else if sep.toList = [] then (if pat.toList = [] then true else !(oneL [4, 8] a)) else false) else (if pat.toList = [] then true else !(oneL [4, 8] a))
def rJ2 (b : Bool) : Bool := if b = true then false else if a = 4 then (if md < 1 then rJ3 a fr sep pat true else if md > 1000 then rJ3 a fr sep pat true else rJ3 a fr sep pat false) else rJ3 a fr sep pat (md != 0)
def rJ1 (b : Bool) : Bool := if b = true then false else if vf = true then (if val.toList = [] then rJ2 a fr sep pat md false else rJ2 a fr sep pat md (!(oneL [3, 5] a))) else rJ2 a fr sep pat md true
def rJ0 (b : Bool) : Bool := if b = true then false else if (oneL [3, 4, 8] a != (tg.toList != ([] : List UInt8))) = true then rJ1 a fr sep pat val md vf true else if tg.toList = [] then rJ1 a fr sep pat val md vf false else rJ1 a fr sep pat val md vf (!tn)
def rI : Bool := if a < 1 then rJ0 a fr sep pat tg val md tn vf true else if a > 8 then rJ0 a fr sep pat tg val md tn vf true else if (fr.length : Int) > 10 then rJ0 a fr sep pat tg val md tn vf true else if an = true then rJ0 a fr sep pat tg val md tn vf true else if p1 = true then rJ0 a fr sep pat tg val md tn vf (!p2) else rJ0 a fr sep pat tg val md tn vf true
def sJ8 (b : Bool) : Bool := if b = true then (if vf = true then (if a = 4 then (if md ≥ 1 then decide (md ≤ 1000) else false) else md == 0) else false) else (if val.toList = [] then (if a = 4 then (if md ≥ 1 then decide (md ≤ 1000) else false) else md == 0) else false)
def sJ7 : Bool := if a = 3 then sJ8 a val md vf true else sJ8 a val md vf (a == 5)
def sJ6 (b : Bool) : Bool := if b = true then (if tn = true then sJ7 a val md vf else false) else (if tg.toList = [] then sJ7 a val md vf else false)
def sJ5 (x6 b : Bool) : Bool := if b = true then false else if x6 = true then sJ6 a tg val md tn vf true else sJ6 a tg val md tn vf (a == 3)
def sJ4 (b : Bool) : Bool := if b = true then sJ5 a tg val md tn vf b (pat.toList != ([] : List UInt8)) else sJ5 a tg val md tn vf b false
def sJ3 (b : Bool) : Bool := if b = true then false else if a = 4 then sJ4 a pat tg val md tn vf true else sJ4 a pat tg val md tn vf (a == 8)
def sJ2 (b : Bool) : Bool := if b = true then (if (fr.length : Int) > 0 then sJ3 a pat tg val md tn vf true else sJ3 a pat tg val md tn vf (sep.toList != ([] : List UInt8))) else sJ3 a pat tg val md tn vf false
def sL : Bool := if an = true then false else if a = 5 then sJ2 a fr sep pat tg val md tn vf true else if a = 6 then sJ2 a fr sep pat tg val md tn vf true else sJ2 a fr sep pat tg val md tn vf (a == 7)
def sJ0 (b : Bool) : Bool := if b = true then false else sL a fr sep pat tg val md an tn vf
def sI : Bool := if a < 1 then sJ0 a fr sep pat tg val md an tn vf true else if a > 8 then sJ0 a fr sep pat tg val md an tn vf true else if (fr.length : Int) > 10 then sJ0 a fr sep pat tg val md an tn vf true else if p1 = true then sJ0 a fr sep pat tg val md an tn vf (!p2) else sJ0 a fr sep pat tg val md an tn vf true
theorem rel_same (ht : tg.toList = [] → tn = false) (hv : val.toList = [] → vf = true) : rI a fr sep pat tg val md an p1 p2 tn vf = sI a fr sep pat tg val md an p1 p2 tn vf := by
 by_cases ha : a < 1
 ·simp [rI, sI, ha, rJ0, sJ0]
 by_cases hb : a > 8
 ·simp [rI, sI, ha, hb, rJ0, sJ0]
 have h8 : a = 1 ∨ a = 2 ∨ a = 3 ∨ a = 4 ∨ a = 5 ∨ a = 6 ∨ a = 7 ∨ a = 8 := by omega
 cases an with
 | true => simp only [rI, sI, sJ0, sL, rJ0, if_true, if_false, ite_self, Bool.false_eq_true]
 | false =>
  cases p1 with
  | false => simp only [rI, sI, sJ0, rJ0, if_true, if_false, ite_self, Bool.false_eq_true]
  | true =>
   cases p2 with
   | false => simp only [rI, sI, sJ0, rJ0, if_true, if_false, ite_self, Bool.false_eq_true, Bool.not_false]
   | true =>
    by_cases hl : (fr.length : Int) > 10
    ·simp only [rI, sI, sJ0, rJ0, if_true, if_false, ite_self, Bool.false_eq_true, hl]
    ·have key : rJ0 a fr sep pat tg val md tn vf false = sL a fr sep pat tg val md false tn vf := by
      by_cases t0 : tg.toList = [] <;> by_cases v0 : val.toList = [] <;> by_cases q0 : pat.toList = [] <;> by_cases s0 : sep.toList = [] <;> by_cases f0 : fr.length > 0 <;>
       (try rw [ht t0]) <;> (try rw [hv v0]) <;>
       rcases h8 with rfl | rfl | rfl | rfl | rfl | rfl | rfl | rfl <;>
       simp [rJ0, rJ1, rJ2, rJ3, sL, sJ2, sJ3, sJ4, sJ5, sJ6, sJ7, sJ8, oneL, t0, v0, q0, s0, f0] <;> (cases tn <;> cases vf <;> first | done | (by_cases m0 : md = 0 <;> simp [m0]; done) | (by_cases m1 : md < 1 <;> by_cases m2 : 1000 < md <;> simp [m1, m2] <;> omega))
     simp only [rI, sI, sJ0, if_neg ha, if_neg hb, if_neg hl, if_true, if_false, Bool.false_eq_true, Bool.not_true, key]
end
section
variable (a : Int) (fr : List ByteArray) (sep pat tg val : ByteArray) (md : Int) (vf : Bool)
theorem i_j3 (b : Bool) : Ev (fun k => impl_GoodRelabel.j3 k a b a fr sep pat tg val md) (rJ3 a fr sep pat b) := by
 unfold rJ3
 exact ev_step (fun _ => impl_GoodRelabel.j3.eq_2 ..) (ev_if (ev_now _) (ev_bind (one_impl _ (by simp) _) (ev_if (ev_if (ev_now _) (ev_if (ev_if (ev_now _) (ev_bind (one_impl _ (by simp) _) (ev_now _))) (ev_now _))) (ev_if (ev_now _) (ev_bind (one_impl _ (by simp) _) (ev_now _))))))
theorem i_j2 (b : Bool) : Ev (fun k => impl_GoodRelabel.j2 k a b a fr sep pat tg val md) (rJ2 a fr sep pat md b) := by
 unfold rJ2
 exact ev_step (fun _ => impl_GoodRelabel.j2.eq_2 ..) (ev_if (ev_now _) (ev_if (ev_if (i_j3 ..) (ev_if (i_j3 ..) (i_j3 ..))) (i_j3 ..)))
theorem i_j1 (hv : Ev (fun k => impl_isFilling.f k val) vf) (b : Bool) : Ev (fun k => impl_GoodRelabel.j1 k a b a fr sep pat tg val md) (rJ1 a fr sep pat val md vf b) := by
 unfold rJ1
 exact ev_step (fun _ => impl_GoodRelabel.j1.eq_2 ..) (ev_if (ev_now _) (ev_bind hv (ev_if (ev_if (i_j2 ..) (ev_bind (one_impl _ (by simp) _) (i_j2 ..))) (i_j2 ..))))
theorem i_j0 (hv : Ev (fun k => impl_isFilling.f k val) vf) (ht : tg.size ≤ 9223372036854775807) (b : Bool) : Ev (fun k => impl_GoodRelabel.j0 k a b a fr sep pat tg val md) (rJ0 a fr sep pat tg val md (nameL (Y tg)) vf b) := by
 unfold rJ0
 exact ev_step (fun _ => impl_GoodRelabel.j0.eq_2 ..) (ev_if (ev_now _) (ev_bind (one_impl _ (by simp) _) (ev_if (i_j1 _ _ _ _ _ _ _ _ hv _) (ev_if (i_j1 _ _ _ _ _ _ _ _ hv _) (ev_bind (name_impl _ ht) (i_j1 _ _ _ _ _ _ _ _ hv _))))))
def anB : Bool := fr.any fun x => !(nameL (Y x))
theorem rel_impl (hv : Ev (fun k => impl_isFilling.f k val) vf) (ht : tg.size ≤ 9223372036854775807) (hp : pat.size ≤ 9223372036854775807) (hs : sep.size ≤ 9223372036854775807) (hf : fr.length ≤ 9223372036854775807 ∧ ∀ x ∈ fr, x.size ≤ 9223372036854775807) :
  Ev (fun k => impl_GoodRelabel.f k a fr sep pat tg val md) (rI a fr sep pat tg val md (anB fr) (prL 10 (Y sep)) (patB pat) (nameL (Y tg)) vf) := by
 unfold rI impl_GoodRelabel.f
 have h0 := i_j0 a fr sep pat tg val md vf hv ht
 have ha : Ev (fun k => any_59_60.f k fr) (anB fr) :=
  any_String (fun k x => impl_GoodRelabel_1.f k x) (fun x => !(nameL (Y x))) fr hf.1 (fun x hx => ev_bind (name_impl x (hf.2 x hx)) (ev_now _))
 exact ev_if (h0 _) (ev_if (h0 _) (ev_if (h0 _) (ev_bind ha (ev_if (h0 _) (ev_bind (printed_impl sep hs 10) (ev_if (ev_bind (pat_impl pat hp) (h0 _)) (h0 _)))))))
theorem s_j8 (hv : Ev (fun k => spec_l4Filling.f k val) vf) (b : Bool) : Ev (fun k => spec_GoodRelabel.j8 k b a fr sep pat tg val md) (sJ8 a val md vf b) := by
 unfold sJ8
 exact ev_step (fun _ => spec_GoodRelabel.j8.eq_2 ..) (ev_if (ev_bind hv (ev_if (ev_if (ev_if (ev_now _) (ev_now _)) (ev_now _)) (ev_now _))) (ev_if (ev_if (ev_if (ev_now _) (ev_now _)) (ev_now _)) (ev_now _)))
theorem s_j7 (hv : Ev (fun k => spec_l4Filling.f k val) vf) : Ev (fun k => spec_GoodRelabel.j7 k a fr sep pat tg val md) (sJ7 a val md vf) := by
 unfold sJ7
 exact ev_step (fun _ => spec_GoodRelabel.j7.eq_2 ..) (ev_if (s_j8 _ _ _ _ _ _ _ _ hv _) (s_j8 _ _ _ _ _ _ _ _ hv _))
theorem s_j6 (hv : Ev (fun k => spec_l4Filling.f k val) vf) (ht : tg.size ≤ 9223372036854775807) (b : Bool) : Ev (fun k => spec_GoodRelabel.j6 k b a fr sep pat tg val md) (sJ6 a tg val md (nameL (Y tg)) vf b) := by
 unfold sJ6
 have h7 := s_j7 a fr sep pat tg val md vf hv
 exact ev_step (fun _ => spec_GoodRelabel.j6.eq_2 ..) (ev_if (ev_bind (name_spec _ ht) (ev_if h7 (ev_now _))) (ev_if h7 (ev_now _)))
theorem s_j5 (hv : Ev (fun k => spec_l4Filling.f k val) vf) (ht : tg.size ≤ 9223372036854775807) (x6 b : Bool) : Ev (fun k => spec_GoodRelabel.j5 k x6 b a fr sep pat tg val md) (sJ5 a tg val md (nameL (Y tg)) vf x6 b) := by
 unfold sJ5
 have h6 := s_j6 a fr sep pat tg val md vf hv ht
 exact ev_step (fun _ => spec_GoodRelabel.j5.eq_2 ..) (ev_if (ev_now _) (ev_if (h6 _) (h6 _)))
theorem s_j4 (hv : Ev (fun k => spec_l4Filling.f k val) vf) (ht : tg.size ≤ 9223372036854775807) (b : Bool) : Ev (fun k => spec_GoodRelabel.j4 k b a fr sep pat tg val md) (sJ4 a pat tg val md (nameL (Y tg)) vf b) := by
 unfold sJ4
 have h5 := s_j5 a fr sep pat tg val md vf hv ht
 exact ev_step (fun _ => spec_GoodRelabel.j4.eq_2 ..) (ev_if (h5 _ _) (h5 _ _))
theorem s_j3 (hv : Ev (fun k => spec_l4Filling.f k val) vf) (ht : tg.size ≤ 9223372036854775807) (b : Bool) : Ev (fun k => spec_GoodRelabel.j3 k b a fr sep pat tg val md) (sJ3 a pat tg val md (nameL (Y tg)) vf b) := by
 unfold sJ3
 have h4 := s_j4 a fr sep pat tg val md vf hv ht
 exact ev_step (fun _ => spec_GoodRelabel.j3.eq_2 ..) (ev_if (ev_now _) (ev_if (h4 _) (h4 _)))
theorem s_j2 (hv : Ev (fun k => spec_l4Filling.f k val) vf) (ht : tg.size ≤ 9223372036854775807) (b : Bool) : Ev (fun k => spec_GoodRelabel.j2 k b a fr sep pat tg val md) (sJ2 a fr sep pat tg val md (nameL (Y tg)) vf b) := by
 unfold sJ2
 have h3 := s_j3 a fr sep pat tg val md vf hv ht
 exact ev_step (fun _ => spec_GoodRelabel.j2.eq_2 ..) (ev_if (ev_if (h3 _) (h3 _)) (h3 _))
theorem s_l (hv : Ev (fun k => spec_l4Filling.f k val) vf) (ht : tg.size ≤ 9223372036854775807) (hf : fr.length ≤ 9223372036854775807 ∧ ∀ x ∈ fr, x.size ≤ 9223372036854775807) : Ev (fun k => spec_GoodRelabel.l0 k fr (fr.length : Int) 0 a fr sep pat tg val md) (sL a fr sep pat tg val md (anB fr) (nameL (Y tg)) vf) := by
 have h2 := s_j2 a fr sep pat tg val md vf hv ht
 refine up_ind fr.length (fun i => Ev (fun k => spec_GoodRelabel.l0 k fr (fr.length : Int) (i : Int) a fr sep pat tg val md) (sL a fr sep pat tg val md (anB (fr.drop i)) (nameL (Y tg)) vf)) ?_ ?_ 0 (by omega)
 ·rw [List.drop_length]
  unfold sL
  exact ev_step (fun _ => spec_GoodRelabel.l0.eq_2 ..) (ev_neg (by omega) (ev_if (h2 _) (ev_if (h2 _) (h2 _))))
 ·intro i h ih
  refine ev_step (fun _ => spec_GoodRelabel.l0.eq_2 ..) (ev_pos (by omega) (ev_pos (by omega) (ev_pos (by omega) ?_)))
  rw [rdOf_at h, List.drop_eq_getElem_cons h, w64n h hf.1]
  refine ev_bind (name_spec _ (hf.2 _ (List.getElem_mem h))) (ev_ite (fun h1 => ?_) (fun h1 => ?_))
  ·rw [show anB (fr[i] :: fr.drop (i + 1)) = anB (fr.drop (i + 1)) from by unfold anB; rw [List.any_cons, h1]; rfl]
   exact ih
  ·rw [show anB (fr[i] :: fr.drop (i + 1)) = true from by unfold anB; rw [List.any_cons, Bool.eq_false_iff.2 h1]; rfl]
   exact ev_now _
theorem rel_spec (hv : Ev (fun k => spec_l4Filling.f k val) vf) (ht : tg.size ≤ 9223372036854775807) (hp : pat.size ≤ 9223372036854775807) (hs : sep.size ≤ 9223372036854775807) (hf : fr.length ≤ 9223372036854775807 ∧ ∀ x ∈ fr, x.size ≤ 9223372036854775807) :
  Ev (fun k => spec_GoodRelabel.f k a fr sep pat tg val md) (sI a fr sep pat tg val md (anB fr) (prL 10 (Y sep)) (patB pat) (nameL (Y tg)) vf) := by
 have h0 : ∀ b, Ev (fun k => spec_GoodRelabel.j0 k b a fr sep pat tg val md) (sJ0 a fr sep pat tg val md (anB fr) (nameL (Y tg)) vf b) := by
  intro b
  unfold sJ0
  exact ev_step (fun _ => spec_GoodRelabel.j0.eq_2 ..) (ev_if (ev_now _) (s_l a fr sep pat tg val md vf hv ht hf))
 unfold sI spec_GoodRelabel.f
 refine ev_if (h0 _) (ev_if (h0 _) (ev_if (h0 _) ?_))
 refine ev_ite (fun h => ?_) (fun h => ?_)
 ·rw [if_neg (by unfold prL; rw [Y_len, decide_eq_false (by omega), Bool.false_and]; decide)]
  exact h0 _
 ·rw [show prL 10 (Y sep) = (Y sep).all prC from by unfold prL; rw [Y_len, decide_eq_true (by omega), Bool.true_and]]
  exact ev_bind (printed_spec sep hs) (ev_if (ev_bind (pat_spec pat hp) (h0 _)) (h0 _))
theorem rel_two (hl : val.size ≤ 4611686018427387904) (ht : tg.size ≤ 9223372036854775807) (hp : pat.size ≤ 9223372036854775807) (hs : sep.size ≤ 9223372036854775807) (hf : fr.length ≤ 9223372036854775807 ∧ ∀ x ∈ fr, x.size ≤ 9223372036854775807) :
  ∃ v, Ev (fun k => impl_GoodRelabel.f k a fr sep pat tg val md) v ∧ Ev (fun k => spec_GoodRelabel.f k a fr sep pat tg val md) v := by
 obtain ⟨vf, h1, h2, h3⟩ := fill_two val hl
 refine ⟨_, rel_impl a fr sep pat tg val md vf h1 ht hp hs hf, ?_⟩
 rw [rel_same a fr sep pat tg val md (anB fr) (prL 10 (Y sep)) (patB pat) (nameL (Y tg)) vf (fun h => by rw [show Y tg = [] from Y_eq.symm.trans h]; rfl) h3]
 exact rel_spec a fr sep pat tg val md vf h2 ht hp hs hf
end

end Go.Proofs.YtknlgignjbghkaaDoor.U
namespace Go.Proofs.YtknlgignjbghkaaDoor.U
open Go.RowKit Go.Proofs.YtknlgignjbghkaaDoor.Pr Go.Proofs.YtknlgignjbghkaaDoorW.PrintWords Go.Proofs.YtknlgignjbghkaaDoorW.PrintLast Go.Proofs.YtknlgignjbghkaaDoorW.PrintMore
set_option linter.unusedVariables false
set_option linter.unusedSimpArgs false
/-- The text of some bytes. -/
def bs (l : List UInt8) : ByteArray := ⟨l.toArray⟩
theorem Y_bs (l : List UInt8) : Y (bs l) = l := by simp [bs]
theorem bs_Y (s : ByteArray) : bs (Y s) = s := Y_inj (Y_bs _)
theorem bs_size (l : List UInt8) : (bs l).size = l.length := by rw [← Y_len, Y_bs]
theorem Y_app (a b : ByteArray) : Y (a ++ b) = Y a ++ Y b := by simp [ByteArray.data_append]
theorem bs_app (a b : List UInt8) : bs a ++ bs b = bs (a ++ b) := Y_inj (by rw [Y_app, Y_bs, Y_bs, Y_bs])
def ints (l : List UInt8) : List Int := l.map fun c => (c.toNat : Int)
theorem ints_len (l : List UInt8) : (ints l).length = l.length := List.length_map ..
theorem ints_two (l : List UInt8) (c : UInt8) : ints l ++ [92] ++ [(c.toNat : Int)] = ints (l ++ [92, c]) := by simp [ints]
theorem ints_one (l : List UInt8) (c : UInt8) : ints l ++ [(c.toNat : Int)] = ints (l ++ [c]) := by simp [ints]
theorem strOf_ints (l : List UInt8) : strOfNums (ints l) = bs l := by
 unfold strOfNums ints bs
 rw [List.map_map]
 congr 2
 rw [show ((fun n => UInt8.ofNat n.toNat) ∘ fun (c : UInt8) => (c.toNat : Int)) = id from by funext c; simp, List.map_id]
def esc (c : UInt8) : List UInt8 := if (c.toNat : Int) = 34 ∨ (c.toNat : Int) = 92 then [92, c] else [c]
/-- A text in quotes: a quote and a backslash stand behind a backslash. -/
def quoteL (l : List UInt8) : List UInt8 := 34 :: (l.flatMap esc ++ [34])
theorem esc_len (c : UInt8) : (esc c).length ≤ 2 := by unfold esc; split <;> simp
theorem escs_len : ∀ l : List UInt8, (l.flatMap esc).length ≤ 2 * l.length := by
 intro l
 induction l with
 | nil => simp
 | cons c l ih => have := esc_len c; rw [List.flatMap_cons, List.length_append, List.length_cons]; omega
theorem quoteL_len (l : List UInt8) : (quoteL l).length ≤ 2 * l.length + 2 := by
 have := escs_len l
 unfold quoteL
 simp only [List.length_cons, List.length_append, List.length_nil]
 omega
theorem quote_spec (s : ByteArray) (hs : s.size ≤ 1048576) : Ev (fun k => spec_l2Quoted.f k s) (bs (quoteL (Y s))) := by
 unfold spec_l2Quoted.f
 have key := up_ind s.size (fun i => ∀ acc : List UInt8, acc.length ≤ 2 * i + 1 → Ev (fun k => spec_l2Quoted.l0 k s (ints acc) (i : Int)) (bs (acc ++ (((Y s).drop i).flatMap esc ++ [34])))) ?_ ?_ 0 (by omega) [34] (by simp)
 ·exact key
 ·intro acc ha
  rw [Y_drop_end, List.flatMap_nil, List.nil_append]
  refine ev_step (fun _ => spec_l2Quoted.l0.eq_2 ..) (ev_neg (by omega) (ev_pos (by rw [ints_len]; omega) ?_))
  rw [show ints acc ++ [34] = ints (acc ++ [34]) from by simp [ints], strOf_ints]
  exact ev_now _
 ·intro i h ih acc ha
  refine ev_step (fun _ => spec_l2Quoted.l0.eq_2 ..) (ev_pos (by omega) (ev_pos (by omega) ?_))
  rw [bt_at h, Y_drop h, List.flatMap_cons, w64n h (by omega)]
  have two : (((Y s)[i]'(by rw [Y_len]; exact h)).toNat : Int) = 34 ∨ (((Y s)[i]'(by rw [Y_len]; exact h)).toNat : Int) = 92 → Ev (fun k => if (ints acc).length < 140737488355328 then ((some (ints acc ++ [92] : List Int)).bind fun y => (if y.length < 140737488355328 then (spec_l2Quoted.l0 k s (y ++ [(((Y s)[i]'(by rw [Y_len]; exact h)).toNat : Int)]) ((i + 1 : Nat) : Int)) else none)) else none) (bs (acc ++ (esc (Y s)[i] ++ ((Y s).drop (i + 1)).flatMap esc ++ [34]))) := by
   intro hc
   refine ev_pos (by rw [ints_len]; omega) (ev_some (ev_pos (by rw [List.length_append, ints_len, List.length_singleton]; omega) ?_))
   rw [ints_two]
   have := ih (acc ++ [92, (Y s)[i]]) (by rw [List.length_append, List.length_cons, List.length_singleton]; omega)
   rw [show esc _ = _ from if_pos hc]
   simpa only [List.append_assoc] using this
  refine ev_ite (fun h1 => two (Or.inl h1)) (fun h1 => ev_ite (fun h2 => two (Or.inr h2)) (fun h2 => ev_pos (by rw [ints_len]; omega) ?_))
  rw [ints_one]
  have := ih (acc ++ [(Y s)[i]]) (by rw [List.length_append, List.length_singleton]; omega)
  rw [show esc _ = _ from if_neg (by rintro (e | e) <;> contradiction)]
  simpa only [List.append_assoc] using this
theorem quote_impl (s : ByteArray) (hs : s.size ≤ 1048576) : Ev (fun k => impl_quote.f k s) (bs (quoteL (Y s))) := by
 unfold impl_quote.f
 have key := up_ind s.size (fun i => ∀ acc : List UInt8, acc.length ≤ 2 * i + 1 → Ev (fun k => impl_quote.l0 k s (ints acc) (s.size : Int) (i : Int)) (bs (acc ++ (((Y s).drop i).flatMap esc ++ [34])))) ?_ ?_ 0 (by omega) [34] (by simp)
 ·exact key
 ·intro acc ha
  rw [Y_drop_end, List.flatMap_nil, List.nil_append]
  refine ev_step (fun _ => impl_quote.l0.eq_2 ..) (ev_neg (by omega) (ev_pos (by rw [ints_len]; omega) ?_))
  rw [show ints acc ++ [34] = ints (acc ++ [34]) from by simp [ints], strOf_ints]
  exact ev_now _
 ·intro i h ih acc ha
  refine ev_step (fun _ => impl_quote.l0.eq_2 ..) (ev_pos (by omega) (ev_pos (by omega) (ev_pos (by omega) ?_)))
  rw [bt_at h, Y_drop h, List.flatMap_cons, w64n h (by omega)]
  have two : (((Y s)[i]'(by rw [Y_len]; exact h)).toNat : Int) = 34 ∨ (((Y s)[i]'(by rw [Y_len]; exact h)).toNat : Int) = 92 → Ev (fun k => if (ints acc).length < 140737488355328 then ((some (ints acc ++ [92] : List Int)).bind fun y => (if y.length < 140737488355328 then (impl_quote.l0 k s (y ++ [(((Y s)[i]'(by rw [Y_len]; exact h)).toNat : Int)]) (s.size : Int) ((i + 1 : Nat) : Int)) else none)) else none) (bs (acc ++ (esc (Y s)[i] ++ ((Y s).drop (i + 1)).flatMap esc ++ [34]))) := by
   intro hc
   refine ev_pos (by rw [ints_len]; omega) (ev_some (ev_pos (by rw [List.length_append, ints_len, List.length_singleton]; omega) ?_))
   rw [ints_two]
   have := ih (acc ++ [92, (Y s)[i]]) (by rw [List.length_append, List.length_cons, List.length_singleton]; omega)
   rw [show esc _ = _ from if_pos hc]
   simpa only [List.append_assoc] using this
  refine ev_ite (fun h1 => two (Or.inl h1)) (fun h1 => ev_ite (fun h2 => two (Or.inr h2)) (fun h2 => ev_pos (by rw [ints_len]; omega) ?_))
  rw [ints_one]
  have := ih (acc ++ [(Y s)[i]]) (by rw [List.length_append, List.length_singleton]; omega)
  rw [show esc _ = _ from if_neg (by rintro (e | e) <;> contradiction)]
  simpa only [List.append_assoc] using this
end Go.Proofs.YtknlgignjbghkaaDoor.U
namespace Go.Proofs.YtknlgignjbghkaaDoor.U
open Go.RowKit Go.Proofs.YtknlgignjbghkaaDoor.Pr Go.Proofs.YtknlgignjbghkaaDoorW.PrintWords Go.Proofs.YtknlgignjbghkaaDoorW.PrintLast Go.Proofs.YtknlgignjbghkaaDoorW.PrintMore
set_option linter.unusedVariables false
set_option linter.unusedSimpArgs false
abbrev RWORDS : List ByteArray := [(⟨#[]⟩ : ByteArray), (⟨#[107, 101, 101, 112]⟩ : ByteArray), (⟨#[100, 114, 111, 112]⟩ : ByteArray), (⟨#[115, 101, 116]⟩ : ByteArray), (⟨#[109, 111, 100]⟩ : ByteArray), (⟨#[109, 97, 112]⟩ : ByteArray), (⟨#[107, 101, 101, 112, 110, 97, 109, 101, 115]⟩ : ByteArray), (⟨#[100, 114, 111, 112, 110, 97, 109, 101, 115]⟩ : ByteArray), (⟨#[108, 111, 119, 101, 114]⟩ : ByteArray)]
theorem rword_size (a : Int) (h : 1 ≤ a ∧ a ≤ 8) : (rdOf ByteArray.empty RWORDS a).size ≤ 9 := by
 rcases (by omega : a = 1 ∨ a = 2 ∨ a = 3 ∨ a = 4 ∨ a = 5 ∨ a = 6 ∨ a = 7 ∨ a = 8) with e | e | e | e | e | e | e | e <;> rw [e] <;> decide
theorem nd_le (u : Nat) : Lib.nDigits u ≤ u + 1 := by
 induction u using Nat.strongRecOn with
 | _ u ih =>
  rw [Lib.nDigits]
  split
  ·omega
  ·have := ih (u / 10) (by omega)
   omega
theorem itoa_len (n : Int) (h0 : 0 ≤ n) (h1 : n ≤ 1000) : (Lib.itoa n).length ≤ 1001 := by
 unfold Lib.itoa
 rw [if_neg (by omega), Lib.decDigits_length]
 have := nd_le n.toNat
 omega
theorem num_l : ∀ (n : Nat) (acc : List UInt8), n ≤ 4611686018427387904 → acc.length + n ≤ 4611686018427387904 → Ev (fun k => spec_l2Num.l0 k (n : Int) (bs acc) false) (bs ((if n = 0 then [] else Lib.decDigits n) ++ acc)) := by
 intro n
 induction n using Nat.strongRecOn with
 | _ n ih =>
  intro acc hn ha
  by_cases h0 : n = 0
  ·subst h0
   rw [if_pos rfl]
   exact ev_step (fun _ => spec_l2Num.l0.eq_2 ..) (ev_pos rfl (ev_neg (by decide) (ev_now _)))
  ·have hm : Int.tmod (n : Int) 10 = ((n % 10 : Nat) : Int) := by rw [Int.tmod_eq_emod_of_nonneg (by omega)]; omega
   have hd : Int.tdiv (n : Int) 10 = ((n / 10 : Nat) : Int) := by rw [Int.tdiv_eq_ediv_of_nonneg (by omega)]; omega
   have hl : n % 10 < 10 := Nat.mod_lt _ (by decide)
   have hb : ([(wrap64 (48 + ((n % 10 : Nat) : Int))) % 256] : List Int) = ints [UInt8.ofNat (48 + n % 10)] := by
    unfold ints
    have ht : (UInt8.ofNat (48 + n % 10)).toNat = 48 + n % 10 := by first | (rw [UInt8.toNat_ofNat']; omega) | (simp; omega)
    rw [w64 (by omega) (by omega), List.map_cons, List.map_nil, ht]
    congr 1
    omega
   refine ev_step (fun _ => spec_l2Num.l0.eq_2 ..) (ev_neg (by omega) (ev_neg (by rw [hm]; omega) ?_))
   rw [hm, hb, hd]
   refine ev_some ?_
   rw [strOf_ints]
   refine ev_pos (by rw [bs_size, bs_size, List.length_singleton]; omega) ?_
   rw [bs_app, w64 (by omega) (by omega)]
   have := ih (n / 10) (by omega) ([UInt8.ofNat (48 + n % 10)] ++ acc) (by omega) (by rw [List.length_append, List.length_singleton]; omega)
   rw [if_neg h0]
   rw [show Lib.decDigits n = (if n / 10 = 0 then [] else Lib.decDigits (n / 10)) ++ [UInt8.ofNat (48 + n % 10)] from by
    rw [Lib.decDigits]
    split
    ·rw [if_pos (by omega), show n % 10 = n from by omega]; rfl
    ·rw [if_neg (by omega)]]
   rw [List.append_assoc]
   exact this
theorem num_spec (n : Int) (h0 : 0 ≤ n) (h1 : n ≤ 1000) : Ev (fun k => spec_l2Num.f k n) (bs (Lib.itoa n)) := by
 obtain ⟨m, rfl⟩ := Int.eq_ofNat_of_zero_le h0
 unfold spec_l2Num.f Lib.itoa
 rw [if_neg (show ¬ ((m : Nat) : Int) < 0 by omega), Int.toNat_natCast]
 refine ev_ite (fun h => ?_) (fun h => ?_)
 ·obtain rfl : m = 0 := by omega
  rw [Lib.decDigits_one (by decide)]
  exact ev_now _
 ·have := num_l m [] (by omega) (by rw [List.length_nil]; omega)
  rw [if_neg (by omega), List.append_nil] at this
  rw [decide_eq_false (by omega)]
  exact this
theorem num_impl (n : Int) (h0 : 0 ≤ n) (h1 : n ≤ 1000) : impl_digitsOf.f n = some (bs (Lib.itoa n)) := by
 unfold impl_digitsOf.f strconv_Itoa_66.f
 rw [if_pos ⟨by omega, by omega⟩]
 rfl
section
variable (a : Int) (fr : List ByteArray) (sep pat tg val : ByteArray) (md : Int) (an p1 p2 tn vf : Bool)
theorem b8 (b : Bool) (h : sJ8 a val md vf b = true) : 0 ≤ md ∧ md ≤ 1000 := by
 unfold sJ8 at h
 (repeat' split at h) <;> simp at h <;> omega
theorem b7 (h : sJ7 a val md vf = true) : 0 ≤ md ∧ md ≤ 1000 := by
 unfold sJ7 at h
 split at h <;> exact b8 a val md vf _ h
theorem b6 (b : Bool) (h : sJ6 a tg val md tn vf b = true) : 0 ≤ md ∧ md ≤ 1000 := by
 unfold sJ6 at h
 (repeat' split at h) <;> first | exact b7 a val md vf h | exact absurd h (by decide)
theorem b5 (x b : Bool) (h : sJ5 a tg val md tn vf x b = true) : 0 ≤ md ∧ md ≤ 1000 := by
 unfold sJ5 at h
 (repeat' split at h) <;> first | exact b6 a tg val md tn vf _ h | exact absurd h (by decide)
theorem b4 (b : Bool) (h : sJ4 a pat tg val md tn vf b = true) : 0 ≤ md ∧ md ≤ 1000 := by
 unfold sJ4 at h
 split at h <;> exact b5 a tg val md tn vf _ _ h
theorem b3 (b : Bool) (h : sJ3 a pat tg val md tn vf b = true) : 0 ≤ md ∧ md ≤ 1000 := by
 unfold sJ3 at h
 (repeat' split at h) <;> first | exact b4 a pat tg val md tn vf _ h | exact absurd h (by decide)
theorem b2 (b : Bool) (h : sJ2 a fr sep pat tg val md tn vf b = true) : 0 ≤ md ∧ md ≤ 1000 := by
 unfold sJ2 at h
 (repeat' split at h) <;> first | exact b3 a pat tg val md tn vf _ h | exact absurd h (by decide)
theorem b1 (h : sL a fr sep pat tg val md an tn vf = true) : 0 ≤ md ∧ md ≤ 1000 := by
 unfold sL at h
 (repeat' split at h) <;> first | exact b2 a fr sep pat tg val md tn vf _ h | exact absurd h (by decide)
theorem b0 (b : Bool) (h : sJ0 a fr sep pat tg val md an tn vf b = true) : b = false ∧ 0 ≤ md ∧ md ≤ 1000 := by
 unfold sJ0 at h
 split at h
 ·exact absurd h (by decide)
 ·rename_i hb
  exact ⟨Bool.eq_false_iff.2 hb, b1 a fr sep pat tg val md an tn vf h⟩
theorem bI (h : sI a fr sep pat tg val md an p1 p2 tn vf = true) : (1 ≤ a ∧ a ≤ 8) ∧ 0 ≤ md ∧ md ≤ 1000 := by
 unfold sI at h
 split at h
 ·exact absurd (b0 a fr sep pat tg val md an tn vf _ h).1 (by decide)
 ·split at h
  ·exact absurd (b0 a fr sep pat tg val md an tn vf _ h).1 (by decide)
  ·refine ⟨by omega, ?_⟩
   (repeat' split at h) <;> exact (b0 a fr sep pat tg val md an tn vf _ h).2
def q5 (x : List UInt8) : List UInt8 := x ++ (if md = 0 then [] else [32, 98, 121, 32] ++ Lib.itoa md)
def q4 (x : List UInt8) : List UInt8 := q5 md (x ++ (if val.toList = [] then [] else [32, 97, 115, 32] ++ quoteL (Y val)))
def q3 (x : List UInt8) : List UInt8 := q4 val md (x ++ (if tg.toList = [] then [] else [32, 116, 111, 32] ++ Y tg))
def q2 (x : List UInt8) : List UInt8 := q3 tg val md (x ++ (if pat.toList = [] then [] else [32, 108, 105, 107, 101, 32] ++ quoteL (Y pat)))
def q1 (x : List UInt8) : List UInt8 := q2 pat tg val md (x ++ (if sep.toList = [] then [] else [32, 115, 101, 112, 32] ++ quoteL (Y sep)))
theorem app3 (x p q : List UInt8) : bs x ++ (bs p ++ bs q) = bs (x ++ (p ++ q)) := by rw [bs_app, bs_app]
theorem ir_j3 (hv : val.size ≤ 1048576) (h0 : 0 ≤ md) (h1 : md ≤ 1000) (x : List UInt8) (hx : x.length ≤ 72057594037927936) : Ev (fun k => impl_RelabelText.j3 k (bs x) a fr sep pat tg val md) (bs (q4 val md x)) := by
 have il := itoa_len md h0 h1
 have ql := quoteL_len (Y val)
 rw [Y_len] at ql
 refine ev_step (fun _ => impl_RelabelText.j3.eq_2 ..) (ev_ite (fun h => ?_) (fun h => ?_))
 ·unfold q4 q5
  rw [if_pos h, List.append_nil]
  refine ev_ite (fun g => ?_) (fun g => ?_)
  ·rw [if_pos g, List.append_nil]
   exact ev_now _
  ·rw [if_neg g]
   refine ev_bind (ev_eq (num_impl md h0 h1)) (ev_pos (by rw [bs_size]; omega) (ev_pos (by rw [ByteArray.size_append, bs_size, bs_size]; show x.length + (4 + _) ≤ _; omega) ?_))
   rw [show (⟨#[32, 98, 121, 32]⟩ : ByteArray) = bs [32, 98, 121, 32] from rfl, app3]
   exact ev_now _
 ·unfold q4 q5
  rw [if_neg h]
  refine ev_bind (quote_impl _ (by omega)) (ev_pos (by rw [bs_size]; omega) (ev_pos (by rw [ByteArray.size_append, bs_size, bs_size]; show x.length + (4 + _) ≤ _; omega) ?_))
  rw [show (⟨#[32, 97, 115, 32]⟩ : ByteArray) = bs [32, 97, 115, 32] from rfl, app3]
  refine ev_ite (fun g => ?_) (fun g => ?_)
  ·rw [if_pos g, List.append_nil]
   exact ev_now _
  ·rw [if_neg g]
   refine ev_bind (ev_eq (num_impl md h0 h1)) (ev_pos (by rw [bs_size]; omega) (ev_pos (by rw [ByteArray.size_append, bs_size, bs_size, List.length_append, List.length_append]; show x.length + (4 + _) + (4 + _) ≤ _; omega) ?_))
   rw [show (⟨#[32, 98, 121, 32]⟩ : ByteArray) = bs [32, 98, 121, 32] from rfl, app3]
   exact ev_now _
theorem ir_j2 (ht : tg.size ≤ 1048576) (hv : val.size ≤ 1048576) (h0 : 0 ≤ md) (h1 : md ≤ 1000) (x : List UInt8) (hx : x.length ≤ 36028797018963968) : Ev (fun k => impl_RelabelText.j2 k (bs x) a fr sep pat tg val md) (bs (q3 tg val md x)) := by
 refine ev_step (fun _ => impl_RelabelText.j2.eq_2 ..) (ev_ite (fun h => ?_) (fun h => ?_))
 ·unfold q3
  rw [if_pos h, List.append_nil]
  exact ir_j3 a fr sep pat tg val md hv h0 h1 x (by omega)
 ·unfold q3
  rw [if_neg h]
  refine ev_pos (by omega) (ev_pos (by rw [ByteArray.size_append, bs_size]; show x.length + (4 + _) ≤ _; omega) ?_)
  rw [show bs x ++ ((⟨#[32, 116, 111, 32]⟩ : ByteArray) ++ tg) = bs (x ++ ([32, 116, 111, 32] ++ Y tg)) from Y_inj (by rw [Y_app, Y_app, Y_bs, Y_bs])]
  exact ir_j3 a fr sep pat tg val md hv h0 h1 _ (by rw [List.length_append, List.length_append, Y_len]; show _ + (4 + _) ≤ _; omega)
theorem ir_j1 (hp : pat.size ≤ 1048576) (ht : tg.size ≤ 1048576) (hv : val.size ≤ 1048576) (h0 : 0 ≤ md) (h1 : md ≤ 1000) (x : List UInt8) (hx : x.length ≤ 18014398509481984) : Ev (fun k => impl_RelabelText.j1 k (bs x) a fr sep pat tg val md) (bs (q2 pat tg val md x)) := by
 have ql := quoteL_len (Y pat)
 rw [Y_len] at ql
 refine ev_step (fun _ => impl_RelabelText.j1.eq_2 ..) (ev_ite (fun h => ?_) (fun h => ?_))
 ·unfold q2
  rw [if_pos h, List.append_nil]
  exact ir_j2 a fr sep pat tg val md ht hv h0 h1 x (by omega)
 ·unfold q2
  rw [if_neg h]
  refine ev_bind (quote_impl _ (by omega)) (ev_pos (by rw [bs_size]; omega) (ev_pos (by rw [ByteArray.size_append, bs_size, bs_size]; show x.length + (6 + _) ≤ _; omega) ?_))
  rw [show (⟨#[32, 108, 105, 107, 101, 32]⟩ : ByteArray) = bs [32, 108, 105, 107, 101, 32] from rfl, app3]
  exact ir_j2 a fr sep pat tg val md ht hv h0 h1 _ (by rw [List.length_append, List.length_append]; show _ + (6 + _) ≤ _; omega)
theorem ir_j0 (hs : sep.size ≤ 1048576) (hp : pat.size ≤ 1048576) (ht : tg.size ≤ 1048576) (hv : val.size ≤ 1048576) (h0 : 0 ≤ md) (h1 : md ≤ 1000) (x : List UInt8) (hx : x.length ≤ 9007199254740992) : Ev (fun k => impl_RelabelText.j0 k (bs x) a fr sep pat tg val md) (bs (q1 sep pat tg val md x)) := by
 have ql := quoteL_len (Y sep)
 rw [Y_len] at ql
 refine ev_step (fun _ => impl_RelabelText.j0.eq_2 ..) (ev_ite (fun h => ?_) (fun h => ?_))
 ·unfold q1
  rw [if_pos h, List.append_nil]
  exact ir_j1 a fr sep pat tg val md hp ht hv h0 h1 x (by omega)
 ·unfold q1
  rw [if_neg h]
  refine ev_bind (quote_impl _ (by omega)) (ev_pos (by rw [bs_size]; omega) (ev_pos (by rw [ByteArray.size_append, bs_size, bs_size]; show x.length + (5 + _) ≤ _; omega) ?_))
  rw [show (⟨#[32, 115, 101, 112, 32]⟩ : ByteArray) = bs [32, 115, 101, 112, 32] from rfl, app3]
  exact ir_j1 a fr sep pat tg val md hp ht hv h0 h1 _ (by rw [List.length_append, List.length_append]; show _ + (5 + _) ≤ _; omega)
theorem sr_j3 (hv : val.size ≤ 1048576) (h0 : 0 ≤ md) (h1 : md ≤ 1000) (x : List UInt8) (hx : x.length ≤ 72057594037927936) : Ev (fun k => spec_l4Text.j3 k (bs x) a fr sep pat tg val md) (bs (q4 val md x)) := by
 have il := itoa_len md h0 h1
 have ql := quoteL_len (Y val)
 rw [Y_len] at ql
 refine ev_step (fun _ => spec_l4Text.j3.eq_2 ..) (ev_ite (fun h => ?_) (fun h => ?_))
 ·unfold q4 q5
  rw [if_pos h, List.append_nil]
  refine ev_ite (fun g => ?_) (fun g => ?_)
  ·rw [if_pos g, List.append_nil]
   exact ev_now _
  ·rw [if_neg g]
   refine ev_bind (num_spec md h0 h1) (ev_pos (by rw [bs_size]; omega) (ev_pos (by rw [ByteArray.size_append, bs_size, bs_size]; show x.length + (4 + _) ≤ _; omega) ?_))
   rw [show (⟨#[32, 98, 121, 32]⟩ : ByteArray) = bs [32, 98, 121, 32] from rfl, app3]
   exact ev_now _
 ·unfold q4 q5
  rw [if_neg h]
  refine ev_bind (quote_spec _ (by omega)) (ev_pos (by rw [bs_size]; omega) (ev_pos (by rw [ByteArray.size_append, bs_size, bs_size]; show x.length + (4 + _) ≤ _; omega) ?_))
  rw [show (⟨#[32, 97, 115, 32]⟩ : ByteArray) = bs [32, 97, 115, 32] from rfl, app3]
  refine ev_ite (fun g => ?_) (fun g => ?_)
  ·rw [if_pos g, List.append_nil]
   exact ev_now _
  ·rw [if_neg g]
   refine ev_bind (num_spec md h0 h1) (ev_pos (by rw [bs_size]; omega) (ev_pos (by rw [ByteArray.size_append, bs_size, bs_size, List.length_append, List.length_append]; show x.length + (4 + _) + (4 + _) ≤ _; omega) ?_))
   rw [show (⟨#[32, 98, 121, 32]⟩ : ByteArray) = bs [32, 98, 121, 32] from rfl, app3]
   exact ev_now _
theorem sr_j2 (ht : tg.size ≤ 1048576) (hv : val.size ≤ 1048576) (h0 : 0 ≤ md) (h1 : md ≤ 1000) (x : List UInt8) (hx : x.length ≤ 36028797018963968) : Ev (fun k => spec_l4Text.j2 k (bs x) a fr sep pat tg val md) (bs (q3 tg val md x)) := by
 refine ev_step (fun _ => spec_l4Text.j2.eq_2 ..) (ev_ite (fun h => ?_) (fun h => ?_))
 ·unfold q3
  rw [if_pos h, List.append_nil]
  exact sr_j3 a fr sep pat tg val md hv h0 h1 x (by omega)
 ·unfold q3
  rw [if_neg h]
  refine ev_pos (by omega) (ev_pos (by rw [ByteArray.size_append, bs_size]; show x.length + (4 + _) ≤ _; omega) ?_)
  rw [show bs x ++ ((⟨#[32, 116, 111, 32]⟩ : ByteArray) ++ tg) = bs (x ++ ([32, 116, 111, 32] ++ Y tg)) from Y_inj (by rw [Y_app, Y_app, Y_bs, Y_bs])]
  exact sr_j3 a fr sep pat tg val md hv h0 h1 _ (by rw [List.length_append, List.length_append, Y_len]; show _ + (4 + _) ≤ _; omega)
theorem sr_j1 (hp : pat.size ≤ 1048576) (ht : tg.size ≤ 1048576) (hv : val.size ≤ 1048576) (h0 : 0 ≤ md) (h1 : md ≤ 1000) (x : List UInt8) (hx : x.length ≤ 18014398509481984) : Ev (fun k => spec_l4Text.j1 k (bs x) a fr sep pat tg val md) (bs (q2 pat tg val md x)) := by
 have ql := quoteL_len (Y pat)
 rw [Y_len] at ql
 refine ev_step (fun _ => spec_l4Text.j1.eq_2 ..) (ev_ite (fun h => ?_) (fun h => ?_))
 ·unfold q2
  rw [if_pos h, List.append_nil]
  exact sr_j2 a fr sep pat tg val md ht hv h0 h1 x (by omega)
 ·unfold q2
  rw [if_neg h]
  refine ev_bind (quote_spec _ (by omega)) (ev_pos (by rw [bs_size]; omega) (ev_pos (by rw [ByteArray.size_append, bs_size, bs_size]; show x.length + (6 + _) ≤ _; omega) ?_))
  rw [show (⟨#[32, 108, 105, 107, 101, 32]⟩ : ByteArray) = bs [32, 108, 105, 107, 101, 32] from rfl, app3]
  exact sr_j2 a fr sep pat tg val md ht hv h0 h1 _ (by rw [List.length_append, List.length_append]; show _ + (6 + _) ≤ _; omega)
theorem sr_e (hs : sep.size ≤ 1048576) (hp : pat.size ≤ 1048576) (ht : tg.size ≤ 1048576) (hv : val.size ≤ 1048576) (h0 : 0 ≤ md) (h1 : md ≤ 1000) (x : List UInt8) (hx : x.length ≤ 9007199254740992) (n : Int) (hn : ¬ n < (fr.length : Int)) : Ev (fun k => spec_l4Text.l0 k (bs x) fr (fr.length : Int) n a fr sep pat tg val md) (bs (q1 sep pat tg val md x)) := by
 have ql := quoteL_len (Y sep)
 rw [Y_len] at ql
 refine ev_step (fun _ => spec_l4Text.l0.eq_2 ..) (ev_neg hn (ev_ite (fun h => ?_) (fun h => ?_)))
 ·unfold q1
  rw [if_pos h, List.append_nil]
  exact sr_j1 a fr sep pat tg val md hp ht hv h0 h1 x (by omega)
 ·unfold q1
  rw [if_neg h]
  refine ev_bind (quote_spec _ (by omega)) (ev_pos (by rw [bs_size]; omega) (ev_pos (by rw [ByteArray.size_append, bs_size, bs_size]; show x.length + (5 + _) ≤ _; omega) ?_))
  rw [show (⟨#[32, 115, 101, 112, 32]⟩ : ByteArray) = bs [32, 115, 101, 112, 32] from rfl, app3]
  exact sr_j1 a fr sep pat tg val md hp ht hv h0 h1 _ (by rw [List.length_append, List.length_append]; show _ + (5 + _) ≤ _; omega)
/-- The names a rule is from. -/
def ftL : Bool → List ByteArray → List UInt8
 | _, [] => []
 | b, x :: xs => (if b = true then ([32, 102, 114, 111, 109, 32] : List UInt8) else [44]) ++ (Y x ++ ftL false xs)
theorem from_spec (hn : fr.length ≤ 1048576) (hb : ∀ x ∈ fr, x.size ≤ 1048576) (hs : sep.size ≤ 1048576) (hp : pat.size ≤ 1048576) (ht : tg.size ≤ 1048576) (hv : val.size ≤ 1048576) (h0 : 0 ≤ md) (h1 : md ≤ 1000) (x : List UInt8) (hx : x.length ≤ 9) : Ev (fun k => spec_l4Text.l0 k (bs x) fr (fr.length : Int) 0 a fr sep pat tg val md) (bs (q1 sep pat tg val md (x ++ ftL true fr))) := by
 have key := up_ind fr.length (fun i => ∀ acc : List UInt8, acc.length ≤ 1048600 * i + 9 → Ev (fun k => spec_l4Text.l0 k (bs acc) fr (fr.length : Int) (i : Int) a fr sep pat tg val md) (bs (q1 sep pat tg val md (acc ++ ftL (decide (i = 0)) (fr.drop i))))) ?_ ?_ 0 (by omega) x (by omega)
 ·exact key
 ·intro acc ha
  rw [List.drop_length]
  simp only [ftL, List.append_nil]
  exact sr_e a fr sep pat tg val md hs hp ht hv h0 h1 acc (by omega) _ (by omega)
 ·intro i h ih acc ha
  have hz := hb fr[i] (List.getElem_mem h)
  refine ev_step (fun _ => spec_l4Text.l0.eq_2 ..) (ev_pos (by omega) (ev_pos (by omega) (ev_pos (by omega) ?_)))
  rw [rdOf_at h, List.drop_eq_getElem_cons h, w64n h (by omega)]
  refine ev_ite (fun c => ?_) (fun c => ?_)
  ·obtain rfl : i = 0 := by omega
   refine ev_pos (by rw [bs_size]; omega) (ev_pos (by rw [ByteArray.size_append, bs_size]; show acc.length + 6 + _ ≤ _; omega) ?_)
   rw [show bs acc ++ (⟨#[32, 102, 114, 111, 109, 32]⟩ : ByteArray) ++ fr[0] = bs (acc ++ (([32, 102, 114, 111, 109, 32] : List UInt8) ++ Y fr[0])) from Y_inj (by rw [Y_app, Y_app, Y_bs, Y_bs, List.append_assoc])]
   have := ih (acc ++ (([32, 102, 114, 111, 109, 32] : List UInt8) ++ Y fr[0])) (by rw [List.length_append, List.length_append, Y_len]; show _ + (6 + _) ≤ _; omega)
   rw [decide_eq_false (by omega)] at this
   rw [decide_eq_true rfl]
   simpa [ftL] using this
  ·refine ev_pos (by rw [bs_size]; omega) (ev_pos (by rw [ByteArray.size_append, bs_size]; show acc.length + 1 + _ ≤ _; omega) ?_)
   rw [show bs acc ++ (⟨#[44]⟩ : ByteArray) ++ fr[i] = bs (acc ++ (([44] : List UInt8) ++ Y fr[i])) from Y_inj (by rw [Y_app, Y_app, Y_bs, Y_bs, List.append_assoc])]
   have := ih (acc ++ (([44] : List UInt8) ++ Y fr[i])) (by rw [List.length_append, List.length_append, Y_len]; show _ + (1 + _) ≤ _; omega)
   rw [decide_eq_false (by omega)] at this ⊢
   simpa [ftL] using this
theorem joinTailR_len (B : Nat) : ∀ r : List (List UInt8), (∀ x ∈ r, x.length ≤ B) → (Lib.joinTail [44] r).length ≤ r.length * (B + 1) := by
 intro r
 induction r with
 | nil => intro _; simp [Lib.joinTail]
 | cons x r ih =>
  intro h
  have h1 := ih (fun y hy => h y (List.mem_cons_of_mem _ hy))
  have h2 := h x (List.mem_cons_self ..)
  unfold Lib.joinTail at h1 ⊢
  rw [List.map_cons, List.flatten_cons, List.length_append, List.length_append, List.length_singleton, List.length_cons, Nat.add_mul, Nat.one_mul]
  omega
theorem joinTail_ft : ∀ l : List ByteArray, Lib.joinTail [44] (l.map Y) = ftL false l := by
 intro l
 induction l with
 | nil => rfl
 | cons x l ih =>
  simp only [ftL]
  rw [← ih]
  simp [Lib.joinTail]
theorem join_ft (h : 0 < fr.length) : ([32, 102, 114, 111, 109, 32] : List UInt8) ++ Lib.join (fr.map Y) [44] = ftL true fr := by
 cases fr with
 | nil => simp at h
 | cons x l =>
  rw [List.map_cons, Lib.join_cons, joinTail_ft]
  rfl
theorem joinR_len (hn : fr.length ≤ 1048576) (hb : ∀ x ∈ fr, x.size ≤ 1048576) : (Lib.join (fr.map Y) [44]).length ≤ 1099515822080 := by
 cases fr with
 | nil => simp [Lib.join_nil]
 | cons x l =>
  have h1 := joinTailR_len 1048576 (l.map Y) (fun y hy => by
   obtain ⟨z, hz, rfl⟩ := List.mem_map.1 hy
   rw [Y_len]
   exact hb z (List.mem_cons_of_mem _ hz))
  have h2 := hb x (List.mem_cons_self ..)
  rw [List.length_map] at h1
  rw [List.length_cons] at hn
  have h3 : l.length * (1048576 + 1) ≤ 1048576 * 1048577 := Nat.mul_le_mul (by omega) (by omega)
  rw [List.map_cons, Lib.join_cons, List.length_append, Y_len]
  omega
def relText (v : Bool) : ByteArray := if v = true then bs (q1 sep pat tg val md (Y (rdOf ByteArray.empty RWORDS a) ++ ftL true fr)) else bs []
theorem rtext_two (hn : fr.length ≤ 1048576) (hb : ∀ x ∈ fr, x.size ≤ 1048576) (hs : sep.size ≤ 1048576) (hp : pat.size ≤ 1048576) (ht : tg.size ≤ 1048576) (hv : val.size ≤ 1048576) :
  ∃ r, Ev (fun k => impl_RelabelText.f k a fr sep pat tg val md) r ∧ Ev (fun k => spec_RelabelText.f k a fr sep pat tg val md) r := by
 obtain ⟨v, e1, e2⟩ := rel_two a fr sep pat tg val md (by omega) (by omega) (by omega) (by omega) ⟨by omega, fun x hx => by have := hb x hx; omega⟩
 obtain ⟨vf, f1, f2, f3⟩ := fill_two val (by omega)
 have e3 := rel_spec a fr sep pat tg val md vf f2 (by omega) (by omega) (by omega) ⟨by omega, fun x hx => by have := hb x hx; omega⟩
 have ev := ev_one e2 e3
 refine ⟨relText a fr sep pat tg val md v, ?_, ?_⟩
 ·unfold impl_RelabelText.f relText
  refine ev_bind e1 (ev_ite (fun h => ?_) (fun h => ?_))
  ·rw [if_pos h]
   obtain ⟨⟨a1, a2⟩, h0, h1⟩ := bI a fr sep pat tg val md _ _ _ _ _ (ev.symm.trans h)
   have ws := rword_size a ⟨a1, a2⟩
   rw [show rdOf ByteArray.empty lT0 a = rdOf ByteArray.empty RWORDS a from rfl]
   refine ev_pos (by omega) (ev_pos (by omega) (ev_ite (fun c => ?_) (fun c => ?_)))
   ·have jl := joinR_len fr hn hb
    refine ev_bind (a := bs (Lib.join (fr.map Y) [44])) (ev_eq ?_) (ev_pos (by rw [bs_size]; omega) (ev_pos (by rw [ByteArray.size_append, bs_size]; show _ + (6 + _) ≤ _; omega) ?_))
    ·unfold strings_Join.f
     exact if_pos ⟨by omega, by show (Lib.join (fr.map Y) [44]).length ≤ _; omega⟩
    ·rw [show rdOf ByteArray.empty RWORDS a ++ ((⟨#[32, 102, 114, 111, 109, 32]⟩ : ByteArray) ++ bs (Lib.join (fr.map Y) [44])) = bs (Y (rdOf ByteArray.empty RWORDS a) ++ ftL true fr) from Y_inj (by rw [Y_app, Y_app, Y_bs, Y_bs, ← join_ft fr (by omega)])]
     refine ir_j0 a fr sep pat tg val md hs hp ht hv h0 h1 _ ?_
     rw [List.length_append, Y_len, ← join_ft fr (by omega), List.length_append]
     show _ + (6 + _) ≤ _
     omega
   ·have hz : fr = [] := List.eq_nil_of_length_eq_zero (by omega)
    rw [show ftL true fr = [] from by rw [hz]; rfl, List.append_nil]
    have := ir_j0 a fr sep pat tg val md hs hp ht hv h0 h1 (Y (rdOf ByteArray.empty RWORDS a)) (by rw [Y_len]; omega)
    rw [bs_Y] at this
    exact this
  ·rw [if_neg h]
   exact ev_now _
 ·unfold spec_RelabelText.f relText
  refine ev_bind e2 (ev_ite (fun h => ?_) (fun h => ?_))
  ·rw [if_pos h]
   obtain ⟨⟨a1, a2⟩, h0, h1⟩ := bI a fr sep pat tg val md _ _ _ _ _ (ev.symm.trans h)
   have ws := rword_size a ⟨a1, a2⟩
   refine ev_bind (a := bs (q1 sep pat tg val md (Y (rdOf ByteArray.empty RWORDS a) ++ ftL true fr))) ?_ (ev_now _)
   unfold spec_l4Text.f
   refine ev_bind (ev_eq (show spec_l4Words.f = some RWORDS from rfl)) (ev_pos (by omega) (ev_pos (by show _ < ((9 : Nat) : Int); omega) ?_))
   have := from_spec a fr sep pat tg val md hn hb hs hp ht hv h0 h1 (Y (rdOf ByteArray.empty RWORDS a)) (by rw [Y_len]; omega)
   rw [bs_Y] at this
   exact this
  ·rw [if_neg h]
   exact ev_now _
end

end Go.Proofs.YtknlgignjbghkaaDoor.U

