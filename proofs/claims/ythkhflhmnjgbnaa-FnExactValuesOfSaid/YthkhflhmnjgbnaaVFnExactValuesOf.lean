/- Plain lemmas over the printed functions, for the law FnExactValuesOf; each theorem states its own conditions. -/
import Derived.Test.YthkhflhmnjgbnaaPrx0
import Derived.Test.YthkhflhmnjgbnaaPrxg18cf1n1
import Derived.Test.YthkhflhmnjgbnaaPrxg7133en1
import Derived.Test.YthkhflhmnjgbnaaPrxg7133en2
import Derived.Test.YthkhflhmnjgbnaaPrxg7133en3
namespace Go.Proofs.Ythkhflhmnjgbnaa.U
open Go.RowKit Go.Proofs.Ythkhflhmnjgbnaa.Pr Go.Proofs.YthkhflhmnjgbnaaW.PrintWords Go.Proofs.YthkhflhmnjgbnaaW.PrintLast Go.Proofs.YthkhflhmnjgbnaaW.PrintMore
set_option linter.unusedVariables false
set_option linter.unusedSimpArgs false
/-! Words for plain proofs over the printed functions: from some number of rounds on; loops that go up; ranges. -/
theorem w64 {x : Int} (h0 : -9223372036854775808 ≤ x) (h1 : x ≤ 9223372036854775807) : wrap64 x = x := by unfold wrap64; omega
theorem w64n {i n : Nat} (h : i < n) (hn : n ≤ 9223372036854775807) : wrap64 ((i : Int) + 1) = ((i + 1 : Nat) : Int) := by unfold wrap64; omega
theorem ev_now {α : Type} (r : α) : Ev (fun _ => some r) r := Ev.now r
theorem ev_eq {α : Type} {g : Option α} {r : α} (h : g = some r) : Ev (fun _ => g) r := ⟨0, fun _ _ => h⟩
theorem ev_pos {α : Type} {c : Prop} [Decidable c] {a b : Nat → Option α} {r : α} (h : c) (e : Ev a r) : Ev (fun k => if c then a k else b k) r := by
 obtain ⟨K, e⟩ := e
 exact ⟨K, fun k hk => (if_pos h).trans (e k hk)⟩
theorem ev_neg {α : Type} {c : Prop} [Decidable c] {a b : Nat → Option α} {r : α} (h : ¬ c) (e : Ev b r) : Ev (fun k => if c then a k else b k) r := by
 obtain ⟨K, e⟩ := e
 exact ⟨K, fun k hk => (if_neg h).trans (e k hk)⟩
theorem ev_ite {α : Type} {c : Prop} [Decidable c] {a b : Nat → Option α} {r : α} (h : c → Ev a r) (h' : ¬ c → Ev b r) : Ev (fun k => if c then a k else b k) r := by
 by_cases hc : c
 ·exact ev_pos hc (h hc)
 ·exact ev_neg hc (h' hc)
theorem ev_bind {α β : Type} {g : Nat → Option α} {f : Nat → α → Option β} {a : α} {r : β} (h : Ev g a) (k : Ev (fun n => f n a) r) : Ev (fun n => (g n).bind (f n)) r := Ev.bind h k
theorem ev_some {α β : Type} {f : Nat → α → Option β} {a : α} {r : β} (k : Ev (fun n => f n a) r) : Ev (fun n => (some a).bind (f n)) r := Ev.bind (Ev.now a) k
theorem ev_step {α : Type} {g f : Nat → Option α} {r : α} (h : ∀ k, g (k + 1) = f k) (k : Ev f r) : Ev g r := Ev.step h k
/-- What holds at the end and goes down a round, holds at each round. -/
theorem up_ind (n : Nat) (Q : Nat → Prop) (done : Q n) (step : ∀ i, i < n → Q (i + 1) → Q i) : ∀ i, i ≤ n → Q i := by
 have key : ∀ d i, i + d = n → Q i := by
  intro d
  induction d with
  | zero =>
   intro i h
   have e : i = n := by omega
   rw [e]
   exact done
  | succ d ih => intro i h; exact step i (by omega) (ih (i + 1) (by omega))
 exact fun i h => key (n - i) i (by omega)
theorem getD_lt {α : Type} {l : List α} {d : α} {i : Nat} (h : i < l.length) : l.getD ((i : Int).toNat) d = l[i] := by
 rw [Int.toNat_natCast, List.getD_eq_getElem?_getD, List.getElem?_eq_getElem h]
 rfl
theorem rdOf_at {α : Type} {d : α} {l : List α} {i : Nat} (h : i < l.length) : rdOf d l (i : Int) = l[i] := getD_lt h
/-- A loop that writes a row anew, element by element. -/
theorem ev_copy {α β : Type} (F : Nat → List β → Int → Option (List β)) (cv : α → β) (l : List α) (x : List β) (hx : x.length = l.length)
  (step : ∀ (i : Nat) (h : i < l.length) (y r : List β), y.length = l.length → Ev (fun k => F k (y.set i (cv l[i])) ((i + 1 : Nat) : Int)) r → Ev (fun k => F k y (i : Int)) r)
  (done : ∀ y : List β, y.length = l.length → Ev (fun k => F k y (l.length : Int)) y) : Ev (fun k => F k x 0) (l.map cv) := by
 refine up_ind l.length (fun i => ∀ y : List β, y.length = l.length → (∀ j, j < i → y[j]? = (l.map cv)[j]?) → Ev (fun k => F k y (i : Int)) (l.map cv)) ?_ ?_ 0 (by omega) x hx (fun j hj => by omega)
 ·intro y hy h
  have e : y = l.map cv := by
   apply List.ext_getElem?
   intro j
   by_cases hj : j < l.length
   ·exact h j hj
   ·rw [List.getElem?_eq_none (by omega), List.getElem?_eq_none (by simp; omega)]
  have d := done y hy
  rw [e] at d ⊢
  exact d
 ·intro i hi ih y hy h
  refine step i hi y _ hy (ih _ (by simp [hy]) (fun j hj => ?_))
  by_cases e : j = i
  ·subst e
   rw [List.getElem?_set_self (by omega), List.getElem?_map, List.getElem?_eq_getElem hi]
   rfl
  ·rw [List.getElem?_set_ne (Ne.symm e)]
   exact h j (by omega)
end Go.Proofs.Ythkhflhmnjgbnaa.U
namespace Go.Proofs.Ythkhflhmnjgbnaa.U
open Go.RowKit Go.Proofs.Ythkhflhmnjgbnaa.Pr Go.Proofs.YthkhflhmnjgbnaaW.PrintWords Go.Proofs.YthkhflhmnjgbnaaW.PrintLast Go.Proofs.YthkhflhmnjgbnaaW.PrintMore
set_option linter.unusedVariables false
set_option linter.unusedSimpArgs false
/-- A string's bytes. -/
abbrev Y (s : ByteArray) : List UInt8 := s.data.toList
theorem Y_eq {s : ByteArray} : s.toList = Y s := ByteArray.toList_eq s
theorem Y_len (s : ByteArray) : (Y s).length = s.size := Array.length_toList
theorem Y_inj {s t : ByteArray} (h : Y s = Y t) : s = t := by
 cases s
 cases t
 congr
 exact Array.toList_inj.1 h
theorem bt_at {s : ByteArray} {i : Nat} (h : i < s.size) : bt s (i : Int) = (((Y s)[i]'(by rw [Y_len]; exact h)).toNat : Int) := by
 unfold bt
 rw [dif_pos (show ((i : Int)).toNat < s.size from by omega)]
 rfl
theorem Y_drop {s : ByteArray} {i : Nat} (h : i < s.size) : (Y s).drop i = (Y s)[i]'(by rw [Y_len]; exact h) :: (Y s).drop (i + 1) := List.drop_eq_getElem_cons _
theorem Y_drop_end (s : ByteArray) : (Y s).drop s.size = [] := by rw [← Y_len, List.drop_length]
def digC (c : UInt8) : Bool := decide (48 ≤ (c.toNat : Int)) && decide ((c.toNat : Int) ≤ 57)
def letC (c : UInt8) : Bool := decide (97 ≤ (c.toNat : Int)) && decide ((c.toNat : Int) ≤ 122) || decide (65 ≤ (c.toNat : Int)) && decide ((c.toNat : Int) ≤ 90)
def wordC (c : UInt8) : Bool := letC c || digC c || decide ((c.toNat : Int) = 95)
def prC (c : UInt8) : Bool := decide (32 ≤ (c.toNat : Int)) && decide ((c.toNat : Int) ≤ 126)
/-- A name: at most 40 letters, digits and _, no digit first. -/
def nameL (l : List UInt8) : Bool := decide (1 ≤ l.length) && decide (l.length ≤ 40) && !(l.head?.any digC) && l.all wordC
def prL (n : Nat) (l : List UInt8) : Bool := decide (l.length ≤ n) && l.all prC
def valL (l : List UInt8) : Bool := decide (1 ≤ l.length) && prL 100 l
/-- How two rows of bytes stand to each other. -/
def cmpL : List UInt8 → List UInt8 → Int
 | [], [] => 0
 | [], _ :: _ => -1
 | _ :: _, [] => 1
 | a :: l, b :: m => if (a.toNat : Int) = (b.toNat : Int) then cmpL l m else if (a.toNat : Int) < (b.toNat : Int) then -1 else 1
end Go.Proofs.Ythkhflhmnjgbnaa.U
namespace Go.Proofs.Ythkhflhmnjgbnaa.U
open Go.RowKit Go.Proofs.Ythkhflhmnjgbnaa.Pr Go.Proofs.YthkhflhmnjgbnaaW.PrintWords Go.Proofs.YthkhflhmnjgbnaaW.PrintLast Go.Proofs.YthkhflhmnjgbnaaW.PrintMore
set_option linter.unusedVariables false
set_option linter.unusedSimpArgs false
def cn (a b : Int) : Int := if a < b then -1 else if a > b then 1 else 0
theorem cmpNum_spec (a b : Int) : spec_l2CmpNum.f a b = some (cn a b) := by
 unfold spec_l2CmpNum.f cn
 by_cases h : a < b
 ·rw [if_pos h, if_pos h]
 ·rw [if_neg h, if_neg h]
  by_cases h' : a > b
  ·rw [if_pos h', if_pos h']
  ·rw [if_neg h', if_neg h']
theorem less_cmp : ∀ a b : List UInt8, Op.bytesLess a b = decide (cmpL a b < 0)
 | [], [] => rfl
 | [], _ :: _ => rfl
 | _ :: _, [] => rfl
 | a :: l, b :: m => by
  unfold Op.bytesLess cmpL
  rw [less_cmp l m]
  by_cases e : (a.toNat : Int) = (b.toNat : Int)
  ·have : a = b := UInt8.toNat_inj.1 (by omega)
   subst this
   simp
  ·have hne : (a == b) = false := by
    rw [beq_eq_false_iff_ne]
    rintro rfl
    exact e rfl
   rw [if_neg e, hne, Bool.false_and, Bool.or_false]
   by_cases h : (a.toNat : Int) < (b.toNat : Int)
   ·rw [if_pos h]
    have : a < b := UInt8.lt_iff_toNat_lt.2 (by omega)
    simp [this]
   ·rw [if_neg h]
    have : ¬ a < b := fun h' => h (by have := UInt8.lt_iff_toNat_lt.1 h'; omega)
    simp [this]
theorem cmp_spec (s t : ByteArray) (hs : s.size ≤ 9223372036854775807) (ht : t.size ≤ 9223372036854775807) : Ev (fun k => spec_l2CmpText.f k s t) (cmpL (Y s) (Y t)) := by
 refine up_ind (min s.size t.size) (fun i => Ev (fun k => spec_l2CmpText.l0 k s t (i : Int)) (cmpL ((Y s).drop i) ((Y t).drop i))) ?_ ?_ 0 (by omega)
 ·generalize hm : min s.size t.size = m
  rcases Nat.lt_or_ge m s.size with h | h
  ·have e : m = t.size := by omega
   refine ev_step (fun _ => spec_l2CmpText.l0.eq_2 ..) (ev_pos (by omega) ?_)
   rw [decide_eq_false (by omega)]
   refine ev_step (fun _ => spec_l2CmpText.j1.eq_2 ..) (ev_neg (by decide) (ev_bind (ev_eq (cmpNum_spec _ _)) ?_))
   rw [Y_drop h, show List.drop m (Y t) = [] from by rw [e, Y_drop_end]]
   unfold cn cmpL
   rw [if_neg (by omega), if_pos (by omega)]
   exact ev_now _
  ·have e : m = s.size := by omega
   refine ev_step (fun _ => spec_l2CmpText.l0.eq_2 ..) (ev_neg (by omega) ?_)
   refine ev_step (fun _ => spec_l2CmpText.j1.eq_2 ..) (ev_neg (by decide) (ev_bind (ev_eq (cmpNum_spec _ _)) ?_))
   rw [e, Y_drop_end]
   by_cases h2 : s.size < t.size
   ·rw [Y_drop h2]
    unfold cn cmpL
    rw [if_pos (by omega)]
    exact ev_now _
   ·have e2 : s.size = t.size := by omega
    rw [e2, Y_drop_end]
    unfold cn cmpL
    rw [if_neg (by omega), if_neg (by omega)]
    exact ev_now _
 ·intro i h ih
  have h1 : i < s.size := by omega
  have h2 : i < t.size := by omega
  refine ev_step (fun _ => spec_l2CmpText.l0.eq_2 ..) (ev_pos (by omega) ?_)
  rw [decide_eq_true (by omega)]
  refine ev_step (fun _ => spec_l2CmpText.j1.eq_2 ..) (ev_pos rfl (ev_pos (by omega) (ev_pos (by omega) (ev_pos (by omega) ?_))))
  rw [bt_at h1, bt_at h2, Y_drop h1, Y_drop h2, w64n h1 hs]
  have a1 := ((Y s)[i]'(by rw [Y_len]; exact h1)).toNat_lt
  have a2 := ((Y t)[i]'(by rw [Y_len]; exact h2)).toNat_lt
  rw [w64 (x := (((Y s)[i]'(by rw [Y_len]; exact h1)).toNat : Int)) (by omega) (by omega), w64 (x := (((Y t)[i]'(by rw [Y_len]; exact h2)).toNat : Int)) (by omega) (by omega)]
  unfold cmpL
  refine ev_ite (fun h3 => ?_) (fun h3 => ?_)
  ·rw [if_pos h3]
   exact ih
  ·rw [if_neg h3]
   refine ev_bind (ev_eq (cmpNum_spec _ _)) ?_
   unfold cn
   by_cases h4 : (((Y s)[i]'(by rw [Y_len]; exact h1)).toNat : Int) < (((Y t)[i]'(by rw [Y_len]; exact h2)).toNat : Int)
   ·rw [if_pos h4, if_pos h4]
    exact ev_now _
   ·rw [if_neg h4, if_neg h4, if_pos (by omega)]
    exact ev_now _
end Go.Proofs.Ythkhflhmnjgbnaa.U
namespace Go.Proofs.Ythkhflhmnjgbnaa.U
open Go.RowKit Go.Proofs.Ythkhflhmnjgbnaa.Pr Go.Proofs.YthkhflhmnjgbnaaW.PrintWords Go.Proofs.YthkhflhmnjgbnaaW.PrintLast Go.Proofs.YthkhflhmnjgbnaaW.PrintMore
set_option linter.unusedVariables false
set_option linter.unusedSimpArgs false
theorem printed_spec (s : ByteArray) (hs : s.size ≤ 9223372036854775807) : Ev (fun k => spec_l2Printed.f k s) ((Y s).all prC) := by
 refine up_ind s.size (fun i => Ev (fun k => spec_l2Printed.l0 k s (i : Int)) (((Y s).drop i).all prC)) ?_ ?_ 0 (by omega)
 ·rw [Y_drop_end]
  exact ev_step (fun _ => spec_l2Printed.l0.eq_2 ..) (ev_neg (by omega) (ev_now _))
 ·intro i h ih
  refine ev_step (fun _ => spec_l2Printed.l0.eq_2 ..) (ev_pos (by omega) (ev_pos (by omega) ?_))
  rw [bt_at h, Y_drop h, List.all_cons, w64n h hs]
  unfold prC
  refine ev_ite (fun h1 => ?_) (fun h1 => ev_ite (fun h2 => ?_) (fun h2 => ?_))
  ·rw [decide_eq_false (by omega)]
   exact ev_now _
  ·rw [decide_eq_false (show ¬ _ ≤ (126 : Int) from by omega), Bool.and_false, Bool.false_and]
   exact ev_now _
  ·rw [decide_eq_true (by omega), decide_eq_true (by omega)]
   exact ih
theorem printed_impl (s : ByteArray) (hs : s.size ≤ 9223372036854775807) (n : Nat) : Ev (fun k => impl_printed.f k s (n : Int)) (prL n (Y s)) := by
 unfold impl_printed.f prL
 rw [Y_len]
 refine ev_ite (fun h => ?_) (fun h => ?_)
 ·rw [decide_eq_false (by omega)]
  exact ev_now _
 ·rw [decide_eq_true (by omega), Bool.true_and]
  refine up_ind s.size (fun i => Ev (fun k => impl_printed.l0 k s (s.size : Int) (i : Int)) (((Y s).drop i).all prC)) ?_ ?_ 0 (by omega)
  ·rw [Y_drop_end]
   exact ev_step (fun _ => impl_printed.l0.eq_2 ..) (ev_neg (by omega) (ev_now _))
  ·intro i h ih
   refine ev_step (fun _ => impl_printed.l0.eq_2 ..) (ev_pos (by omega) (ev_pos (by omega) (ev_pos (by omega) ?_)))
   rw [bt_at h, Y_drop h, List.all_cons, w64n h hs]
   unfold prC
   refine ev_ite (fun h1 => ?_) (fun h1 => ev_ite (fun h2 => ?_) (fun h2 => ?_))
   ·rw [decide_eq_false (by omega)]
    exact ev_now _
   ·rw [decide_eq_false (show ¬ _ ≤ (126 : Int) from by omega), Bool.and_false, Bool.false_and]
    exact ev_now _
   ·rw [decide_eq_true (by omega), decide_eq_true (by omega)]
    exact ih
end Go.Proofs.Ythkhflhmnjgbnaa.U
namespace Go.Proofs.Ythkhflhmnjgbnaa.U
open Go.RowKit Go.Proofs.Ythkhflhmnjgbnaa.Pr Go.Proofs.YthkhflhmnjgbnaaW.PrintWords Go.Proofs.YthkhflhmnjgbnaaW.PrintLast Go.Proofs.YthkhflhmnjgbnaaW.PrintMore
set_option linter.unusedVariables false
set_option linter.unusedSimpArgs false
theorem digit_impl (c : UInt8) : impl_digitByte.f (c.toNat : Int) = some (digC c) := by
 unfold impl_digitByte.f digC
 by_cases h : (c.toNat : Int) ≥ 48
 ·rw [if_pos h, decide_eq_true (show 48 ≤ (c.toNat : Int) from h), Bool.true_and]
 ·rw [if_neg h, decide_eq_false (show ¬ 48 ≤ (c.toNat : Int) from h), Bool.false_and]
theorem digit_spec (c : UInt8) : spec_l2Digit.f (c.toNat : Int) = some (digC c) := by
 unfold spec_l2Digit.f digC
 by_cases h : (c.toNat : Int) ≥ 48
 ·rw [if_pos h, decide_eq_true (show 48 ≤ (c.toNat : Int) from h), Bool.true_and]
 ·rw [if_neg h, decide_eq_false (show ¬ 48 ≤ (c.toNat : Int) from h), Bool.false_and]
theorem letter_impl (c : UInt8) : impl_letterByte.f (c.toNat : Int) = some (letC c) := by
 unfold impl_letterByte.f letC
 by_cases h : (c.toNat : Int) ≥ 97 <;> by_cases h1 : (c.toNat : Int) ≤ 122 <;> by_cases h2 : (c.toNat : Int) ≥ 65 <;> by_cases h3 : (c.toNat : Int) ≤ 90 <;> simp [h, h1, h2, h3] <;> omega
theorem letter_spec (c : UInt8) : spec_l2Letter.f (c.toNat : Int) = some (letC c) := by
 unfold spec_l2Letter.f letC
 by_cases h : (c.toNat : Int) ≥ 97 <;> by_cases h1 : (c.toNat : Int) ≤ 122 <;> by_cases h2 : (c.toNat : Int) ≥ 65 <;> by_cases h3 : (c.toNat : Int) ≤ 90 <;> simp [h, h1, h2, h3] <;> omega
theorem word_impl (c : UInt8) : impl_wordByte.f (c.toNat : Int) = some (wordC c) := by
 unfold impl_wordByte.f wordC
 rw [letter_impl, digit_impl]
 cases letC c <;> cases digC c <;> simp <;> rfl
theorem name_loop_impl (s : ByteArray) (hs : s.size ≤ 9223372036854775807) : Ev (fun k => impl_isName.l0 k s (s.size : Int) 0) ((Y s).all wordC) := by
 refine up_ind s.size (fun i => Ev (fun k => impl_isName.l0 k s (s.size : Int) (i : Int)) (((Y s).drop i).all wordC)) ?_ ?_ 0 (by omega)
 ·rw [Y_drop_end]
  exact ev_step (fun _ => impl_isName.l0.eq_2 ..) (ev_neg (by omega) (ev_now _))
 ·intro i h ih
  refine ev_step (fun _ => impl_isName.l0.eq_2 ..) (ev_pos (by omega) (ev_pos (by omega) (ev_pos (by omega) ?_)))
  rw [bt_at h, Y_drop h, List.all_cons, w64n h hs]
  refine ev_bind (ev_eq (word_impl _)) (ev_ite (fun h1 => ?_) (fun h1 => ?_))
  ·rw [h1]
   exact ih
  ·rw [Bool.eq_false_iff.2 h1]
   exact ev_now _
theorem name_loop_spec (s : ByteArray) (hs : s.size ≤ 9223372036854775807) : Ev (fun k => spec_l2Name.l0 k s 0) ((Y s).all wordC) := by
 refine up_ind s.size (fun i => Ev (fun k => spec_l2Name.l0 k s (i : Int)) (((Y s).drop i).all wordC)) ?_ ?_ 0 (by omega)
 ·rw [Y_drop_end]
  exact ev_step (fun _ => spec_l2Name.l0.eq_2 ..) (ev_neg (by omega) (ev_now _))
 ·intro i h ih
  refine ev_step (fun _ => spec_l2Name.l0.eq_2 ..) (ev_pos (by omega) (ev_pos (by omega) ?_))
  rw [bt_at h, Y_drop h, List.all_cons, w64n h hs]
  unfold wordC
  refine ev_bind (ev_eq (letter_spec _)) (ev_ite (fun h1 => ?_) (fun h1 => ev_bind (ev_eq (digit_spec _)) (ev_ite (fun h2 => ?_) (fun h2 => ev_ite (fun h3 => ?_) (fun h3 => ?_)))))
  ·rw [h1]
   exact ih
  ·rw [h2, Bool.or_true]
   exact ih
  ·rw [decide_eq_true h3, Bool.or_true]
   exact ih
  ·rw [Bool.eq_false_iff.2 h1, Bool.eq_false_iff.2 h2, decide_eq_false h3]
   exact ev_now _
theorem name_impl (s : ByteArray) (hs : s.size ≤ 9223372036854775807) : Ev (fun k => impl_isName.f k s) (nameL (Y s)) := by
 unfold impl_isName.f nameL
 rw [Y_eq]
 refine ev_ite (fun h => ?_) (fun h => ?_)
 ·rw [h]
  exact ev_step (fun _ => impl_isName.j0.eq_2 ..) (ev_pos rfl (ev_now _))
 ·have hl : 1 ≤ (Y s).length := by
   cases e : Y s with
   | nil => exact absurd e h
   | cons a l => simp
  rw [decide_eq_true hl, Y_len, Bool.true_and]
  rw [Y_len] at hl
  refine ev_ite (fun h1 => ?_) (fun h1 => ev_pos (by omega) ?_)
  ·rw [decide_eq_false (by omega)]
   exact ev_step (fun _ => impl_isName.j0.eq_2 ..) (ev_pos rfl (ev_now _))
  ·rw [decide_eq_true (by omega), Bool.true_and]
   have e0 := bt_at (s := s) (i := 0) (by omega)
   have eh : (Y s).head? = some ((Y s)[0]'(by rw [Y_len]; omega)) := by rw [List.head?_eq_getElem?, List.getElem?_eq_getElem]
   rw [show bt s 0 = bt s ((0 : Nat) : Int) from rfl, e0, eh]
   refine ev_bind (ev_eq (digit_impl _)) (ev_step (fun _ => impl_isName.j0.eq_2 ..) (ev_ite (fun h2 => ?_) (fun h2 => ?_)))
   ·rw [Option.any_some, h2]
    exact ev_now _
   ·rw [Option.any_some, Bool.eq_false_iff.2 h2]
    exact name_loop_impl s hs
theorem name_spec (s : ByteArray) (hs : s.size ≤ 9223372036854775807) : Ev (fun k => spec_l2Name.f k s) (nameL (Y s)) := by
 unfold spec_l2Name.f nameL
 rw [Y_len]
 refine ev_ite (fun h => ?_) (fun h => ?_)
 ·rw [decide_eq_false (by omega)]
  exact ev_step (fun _ => spec_l2Name.j0.eq_2 ..) (ev_pos rfl (ev_now _))
 ·rw [decide_eq_true (by omega), Bool.true_and]
  refine ev_ite (fun h1 => ?_) (fun h1 => ev_pos (by omega) ?_)
  ·rw [decide_eq_false (by omega)]
   exact ev_step (fun _ => spec_l2Name.j0.eq_2 ..) (ev_pos rfl (ev_now _))
  ·rw [decide_eq_true (by omega), Bool.true_and]
   have e0 := bt_at (s := s) (i := 0) (by omega)
   have eh : (Y s).head? = some ((Y s)[0]'(by rw [Y_len]; omega)) := by rw [List.head?_eq_getElem?, List.getElem?_eq_getElem]
   rw [show bt s 0 = bt s ((0 : Nat) : Int) from rfl, e0, eh]
   refine ev_bind (ev_eq (digit_spec _)) (ev_step (fun _ => spec_l2Name.j0.eq_2 ..) (ev_ite (fun h2 => ?_) (fun h2 => ?_)))
   ·rw [Option.any_some, h2]
    exact ev_now _
   ·rw [Option.any_some, Bool.eq_false_iff.2 h2]
    exact name_loop_spec s hs
end Go.Proofs.Ythkhflhmnjgbnaa.U
namespace Go.Proofs.Ythkhflhmnjgbnaa.U
open Go.RowKit Go.Proofs.Ythkhflhmnjgbnaa.Pr Go.Proofs.YthkhflhmnjgbnaaW.PrintWords Go.Proofs.YthkhflhmnjgbnaaW.PrintLast Go.Proofs.YthkhflhmnjgbnaaW.PrintMore
set_option linter.unusedVariables false
set_option linter.unusedSimpArgs false
theorem value_spec (s : ByteArray) (hs : s.size ≤ 9223372036854775807) : Ev (fun k => spec_l2Value.f k s) (valL (Y s)) := by
 unfold spec_l2Value.f valL prL
 rw [Y_len]
 refine ev_ite (fun h => ev_ite (fun h1 => ?_) (fun h1 => ?_)) (fun h => ?_)
 ·rw [decide_eq_true (by omega), decide_eq_true (by omega), Bool.true_and, Bool.true_and]
  exact ev_bind (printed_spec s hs) (ev_now _)
 ·rw [decide_eq_false (show ¬ s.size ≤ 100 from by omega), Bool.false_and, Bool.and_false]
  exact ev_now _
 ·rw [decide_eq_false (by omega), Bool.false_and]
  exact ev_now _
theorem value_impl (s : ByteArray) (hs : s.size ≤ 9223372036854775807) : Ev (fun k => impl_isValue.f k s) (valL (Y s)) := by
 unfold impl_isValue.f valL
 rw [Y_eq, ]
 refine ev_ite (fun h => ?_) (fun h => ?_)
 ·rw [h]
  exact ev_now _
 ·have : 1 ≤ (Y s).length := by
   cases e : Y s with
   | nil => exact absurd e h
   | cons a l => simp
  rw [decide_eq_true this, Bool.true_and]
  exact ev_bind (printed_impl s hs 100) (ev_now _)
end Go.Proofs.Ythkhflhmnjgbnaa.U
namespace Go.Proofs.Ythkhflhmnjgbnaa.U
open Go.RowKit Go.Proofs.Ythkhflhmnjgbnaa.Pr Go.Proofs.YthkhflhmnjgbnaaW.PrintWords Go.Proofs.YthkhflhmnjgbnaaW.PrintLast Go.Proofs.YthkhflhmnjgbnaaW.PrintMore
set_option linter.unusedVariables false
set_option linter.unusedSimpArgs false
def before (p : Option (List UInt8)) (l : List UInt8) : Bool := match p with
 | none => true
 | some q => decide (cmpL q l < 0)
/-- Labels that are good, each name behind the one ahead. -/
def riseL (p : Option (List UInt8)) : List S60 → Bool
 | [] => true
 | x :: xs => nameL (Y x.f0) && valL (Y x.f1) && before p (Y x.f0) && riseL (some (Y x.f0)) xs
def goodL (l : List S60) : Bool := decide (l.length ≤ 20) && riseL none l
def ptL (l : List S60) (i : Nat) : Option (List UInt8) := if i = 0 then none else some (Y (rd_T60 l ((i - 1 : Nat) : Int)).f0)
/-- Texts that fit. -/
def fitL (l : List S60) : Prop := l.length ≤ 9223372036854775807 ∧ ∀ x ∈ l, x.f0.size ≤ 9223372036854775807 ∧ x.f1.size ≤ 9223372036854775807
theorem goodLabels_impl_l (l : List S60) (hf : fitL l) : Ev (fun k => impl_GoodLabels.l0 k l l (l.length : Int) 0) (riseL none l) := by
 obtain ⟨hl, hw⟩ := hf
 have hrd : ∀ (i : Nat) (h : i < l.length), rd_T60 l (i : Int) = l[i] := fun i h => getD_lt h
 refine up_ind l.length (fun i => Ev (fun k => impl_GoodLabels.l0 k l l (l.length : Int) (i : Int)) (riseL (ptL l i) (l.drop i))) ?_ ?_ 0 (by omega)
 ·rw [List.drop_length]
  exact ev_step (fun _ => impl_GoodLabels.l0.eq_2 ..) (ev_neg (by omega) (ev_now _))
 ·intro i h ih
  have hp : ptL l (i + 1) = some (Y l[i].f0) := by unfold ptL; rw [if_neg (by omega), Nat.add_sub_cancel, hrd i h]
  rw [hp] at ih
  obtain ⟨w1, w2⟩ := hw l[i] (List.getElem_mem h)
  have wi : wrap64 ((i : Int) + 1) = ((i + 1 : Nat) : Int) := w64n h hl
  refine ev_step (fun _ => impl_GoodLabels.l0.eq_2 ..) (ev_pos (by omega) (ev_pos (by omega) (ev_pos (by omega) ?_)))
  rw [hrd i h, List.drop_eq_getElem_cons h]
  simp only [riseL]
  refine ev_bind (name_impl _ w1) (ev_ite (fun h1 => ev_bind (value_impl _ w2) (ev_ite (fun h2 => ?_) (fun h2 => ?_))) (fun h1 => ?_))
  ·rw [h1, h2, Bool.true_and, Bool.true_and]
   by_cases hi : i = 0
   ·subst hi
    rw [wi]
    exact ev_neg (by omega) ih
   ·have wm : wrap64 ((i : Int) - 1) = ((i - 1 : Nat) : Int) := by rw [w64 (by omega) (by omega)]; omega
    have hq : ptL l i = some (Y l[i - 1].f0) := by unfold ptL; rw [if_neg hi, hrd (i - 1) (by omega)]
    obtain ⟨w3, _⟩ := hw l[i - 1] (List.getElem_mem (by omega))
    rw [wm, hrd (i - 1) (by omega), hq, wi]
    refine ev_pos (by omega) (ev_pos (by omega) (ev_pos (by omega) ?_))
    simp only [before]
    rw [Y_eq, Y_eq, less_cmp]
    refine ev_ite (fun h3 => ?_) (fun h3 => ?_)
    ·rw [h3, Bool.true_and]
     exact ih
    ·rw [Bool.eq_false_iff.2 h3, Bool.false_and]
     exact ev_now _
  ·rw [h1, Bool.eq_false_iff.2 h2]
   exact ev_now _
  ·rw [Bool.eq_false_iff.2 h1]
   exact ev_now _
theorem goodLabels_impl (l : List S60) (hf : fitL l) : Ev (fun k => impl_GoodLabels.f k l) (goodL l) := by
 unfold impl_GoodLabels.f goodL
 refine ev_ite (fun h => ?_) (fun h => ?_)
 ·rw [decide_eq_false (by omega)]
  exact ev_now _
 ·rw [decide_eq_true (by omega), Bool.true_and]
  exact goodLabels_impl_l l hf
theorem goodLabels_spec_l (l : List S60) (hf : fitL l) : Ev (fun k => spec_GoodLabels.l0 k l l (l.length : Int) 0) (riseL none l) := by
 obtain ⟨hl, hw⟩ := hf
 have hrd : ∀ (i : Nat) (h : i < l.length), rd_T60 l (i : Int) = l[i] := fun i h => getD_lt h
 refine up_ind l.length (fun i => Ev (fun k => spec_GoodLabels.l0 k l l (l.length : Int) (i : Int)) (riseL (ptL l i) (l.drop i))) ?_ ?_ 0 (by omega)
 ·rw [List.drop_length]
  exact ev_step (fun _ => spec_GoodLabels.l0.eq_2 ..) (ev_neg (by omega) (ev_now _))
 ·intro i h ih
  have hp : ptL l (i + 1) = some (Y l[i].f0) := by unfold ptL; rw [if_neg (by omega), Nat.add_sub_cancel, hrd i h]
  rw [hp] at ih
  obtain ⟨w1, w2⟩ := hw l[i] (List.getElem_mem h)
  have wi : wrap64 ((i : Int) + 1) = ((i + 1 : Nat) : Int) := w64n h hl
  refine ev_step (fun _ => spec_GoodLabels.l0.eq_2 ..) (ev_pos (by omega) (ev_pos (by omega) (ev_pos (by omega) ?_)))
  rw [hrd i h, List.drop_eq_getElem_cons h]
  simp only [riseL]
  refine ev_bind (name_spec _ w1) (ev_ite (fun h1 => ev_bind (value_spec _ w2) (ev_ite (fun h2 => ?_) (fun h2 => ?_))) (fun h1 => ?_))
  ·rw [h1, h2, Bool.true_and, Bool.true_and]
   by_cases hi : i = 0
   ·subst hi
    rw [wi]
    exact ev_neg (by omega) ih
   ·have wm : wrap64 ((i : Int) - 1) = ((i - 1 : Nat) : Int) := by rw [w64 (by omega) (by omega)]; omega
    have hq : ptL l i = some (Y l[i - 1].f0) := by unfold ptL; rw [if_neg hi, hrd (i - 1) (by omega)]
    obtain ⟨w3, _⟩ := hw l[i - 1] (List.getElem_mem (by omega))
    rw [wm, hrd (i - 1) (by omega), hq, wi]
    refine ev_pos (by omega) (ev_pos (by omega) (ev_pos (by omega) ?_))
    simp only [before]
    refine ev_bind (cmp_spec _ _ w3 w1) (ev_ite (fun h3 => ?_) (fun h3 => ?_))
    ·rw [decide_eq_false (by omega), Bool.false_and]
     exact ev_now _
    ·rw [decide_eq_true (by omega), Bool.true_and]
     exact ih
  ·rw [h1, Bool.eq_false_iff.2 h2]
   exact ev_now _
  ·rw [Bool.eq_false_iff.2 h1]
   exact ev_now _
theorem goodLabels_spec (l : List S60) (hf : fitL l) : Ev (fun k => spec_GoodLabels.f k l) (goodL l) := by
 unfold spec_GoodLabels.f goodL
 refine ev_ite (fun h => ?_) (fun h => ?_)
 ·rw [decide_eq_false (by omega)]
  exact ev_now _
 ·rw [decide_eq_true (by omega), Bool.true_and]
  exact goodLabels_spec_l l hf
end Go.Proofs.Ythkhflhmnjgbnaa.U
namespace Go.Proofs.Ythkhflhmnjgbnaa.U
open Go.RowKit Go.Proofs.Ythkhflhmnjgbnaa.Pr Go.Proofs.YthkhflhmnjgbnaaW.PrintWords Go.Proofs.YthkhflhmnjgbnaaW.PrintLast Go.Proofs.YthkhflhmnjgbnaaW.PrintMore
set_option linter.unusedVariables false
set_option linter.unusedSimpArgs false
theorem cmpL_neg : ∀ a b : List UInt8, cmpL b a = - cmpL a b
 | [], [] => rfl
 | [], _ :: _ => rfl
 | _ :: _, [] => rfl
 | a :: l, b :: m => by
  simp only [cmpL]
  by_cases e : (a.toNat : Int) = (b.toNat : Int)
  ·rw [if_pos e, if_pos e.symm]
   exact cmpL_neg l m
  ·rw [if_neg e, if_neg (fun h => e h.symm)]
   by_cases h : (a.toNat : Int) < (b.toNat : Int)
   ·rw [if_pos h, if_neg (by omega)]
    rfl
   ·rw [if_neg h, if_pos (by omega)]
theorem cmpL_cases : ∀ a b : List UInt8, cmpL a b = -1 ∨ cmpL a b = 0 ∨ cmpL a b = 1
 | [], [] => .inr (.inl rfl)
 | [], _ :: _ => .inl rfl
 | _ :: _, [] => .inr (.inr rfl)
 | a :: l, b :: m => by
  simp only [cmpL]
  by_cases e : (a.toNat : Int) = (b.toNat : Int)
  ·rw [if_pos e]
   exact cmpL_cases l m
  ·rw [if_neg e]
   by_cases h : (a.toNat : Int) < (b.toNat : Int)
   ·rw [if_pos h]
    exact .inl rfl
   ·rw [if_neg h]
    exact .inr (.inr rfl)
/-- How two lists of labels stand to each other. -/
def cmpLL : List S60 → List S60 → Int
 | [], [] => 0
 | [], _ :: _ => -1
 | _ :: _, [] => 1
 | x :: xs, y :: ys => if cmpL (Y x.f0) (Y y.f0) = 0 then (if cmpL (Y x.f1) (Y y.f1) = 0 then cmpLL xs ys else cmpL (Y x.f1) (Y y.f1)) else cmpL (Y x.f0) (Y y.f0)
theorem cmpLL_spec (l m : List S60) (hl : fitL l) (hm : fitL m) : Ev (fun k => spec_l2Cmp.f k l m) (cmpLL l m) := by
 have hrd : ∀ (l : List S60) (i : Nat) (h : i < l.length), rd_T60 l (i : Int) = l[i] := fun l i h => getD_lt h
 refine up_ind (min l.length m.length) (fun i => Ev (fun k => spec_l2Cmp.l0 k l m (i : Int)) (cmpLL (l.drop i) (m.drop i))) ?_ ?_ 0 (by omega)
 ·generalize hq : min l.length m.length = q
  rcases Nat.lt_or_ge q l.length with h | h
  ·have e : q = m.length := by omega
   refine ev_step (fun _ => spec_l2Cmp.l0.eq_2 ..) (ev_pos (by omega) ?_)
   rw [decide_eq_false (by omega)]
   refine ev_step (fun _ => spec_l2Cmp.j1.eq_2 ..) (ev_neg (by decide) (ev_bind (ev_eq (cmpNum_spec _ _)) ?_))
   rw [List.drop_eq_getElem_cons h, show m.drop q = [] from by rw [e, List.drop_length]]
   unfold cn cmpLL
   rw [if_neg (by omega), if_pos (by omega)]
   exact ev_now _
  ·have e : q = l.length := by omega
   refine ev_step (fun _ => spec_l2Cmp.l0.eq_2 ..) (ev_neg (by omega) ?_)
   refine ev_step (fun _ => spec_l2Cmp.j1.eq_2 ..) (ev_neg (by decide) (ev_bind (ev_eq (cmpNum_spec _ _)) ?_))
   rw [e, List.drop_length]
   by_cases h2 : l.length < m.length
   ·rw [List.drop_eq_getElem_cons h2]
    unfold cn cmpLL
    rw [if_pos (by omega)]
    exact ev_now _
   ·have e2 : l.length = m.length := by omega
    rw [e2, List.drop_length]
    unfold cn cmpLL
    rw [if_neg (by omega), if_neg (by omega)]
    exact ev_now _
 ·intro i h ih
  have h1 : i < l.length := by omega
  have h2 : i < m.length := by omega
  obtain ⟨a1, a2⟩ := hl.2 l[i] (List.getElem_mem h1)
  obtain ⟨b1, b2⟩ := hm.2 m[i] (List.getElem_mem h2)
  refine ev_step (fun _ => spec_l2Cmp.l0.eq_2 ..) (ev_pos (by omega) ?_)
  rw [decide_eq_true (by omega)]
  refine ev_step (fun _ => spec_l2Cmp.j1.eq_2 ..) (ev_pos rfl (ev_pos (by omega) (ev_pos (by omega) (ev_pos (by omega) ?_))))
  rw [hrd l i h1, hrd m i h2, List.drop_eq_getElem_cons h1, List.drop_eq_getElem_cons h2, w64n h1 hl.1]
  simp only [cmpLL]
  refine ev_bind (cmp_spec _ _ a1 b1) (ev_ite (fun h3 => ev_bind (cmp_spec _ _ a2 b2) (ev_ite (fun h4 => ?_) (fun h4 => ?_))) (fun h3 => ?_))
  ·rw [if_pos h3, if_pos h4]
   exact ih
  ·rw [if_pos h3, if_neg h4]
   exact ev_now _
  ·rw [if_neg h3]
   exact ev_now _
theorem compare_str (a b : ByteArray) : cmp_Compare_string.f a b = some (cmpL (Y a) (Y b)) := by
 unfold cmp_Compare_string.f cmp_isNaN_string.f
 simp only [bne_self_eq_false, Option.bind_some]
 rw [if_neg (by decide), if_neg (by decide), Y_eq, Y_eq, less_cmp, less_cmp, cmpL_neg (Y a) (Y b)]
 rcases cmpL_cases (Y a) (Y b) with h | h | h <;> rw [h] <;> rfl
theorem compare_int (a b : Int) : cmp_Compare_int.f a b = some (cn a b) := by
 unfold cmp_Compare_int.f cmp_isNaN_int.f cn
 simp only [bne_self_eq_false, Option.bind_some]
 rw [if_neg (by decide), if_neg (by decide)]
 by_cases h : a < b
 ·rw [if_pos h, if_pos h]
 ·rw [if_neg h, if_neg h]
  by_cases h' : a > b
  ·rw [if_pos h', if_pos h']
  ·rw [if_neg h', if_neg h']
theorem or_two (a b : Int) : Ev (fun k => cmp_Or_int.f k [a, b]) (if a = 0 then b else a) := by
 unfold cmp_Or_int.f
 refine ev_step (fun _ => cmp_Or_int.l0.eq_2 ..) (ev_pos (by simp) (ev_pos (by simp) (ev_pos (by simp) ?_)))
 rw [show rd [a, b] 0 = a from rfl]
 refine ev_ite (fun h => ?_) (fun h => ?_)
 ·rw [if_pos h, show wrap64 (0 + 1) = 1 from (w64 (by omega) (by omega)).trans (by omega)]
  refine ev_step (fun _ => cmp_Or_int.l0.eq_2 ..) (ev_pos (by simp) (ev_pos (by simp) (ev_pos (by simp) ?_)))
  rw [show rd [a, b] 1 = b from rfl]
  refine ev_ite (fun h => ?_) (fun h => ev_now _)
  rw [h, show wrap64 (1 + 1) = 2 from (w64 (by omega) (by omega)).trans (by omega)]
  exact ev_step (fun _ => cmp_Or_int.l0.eq_2 ..) (ev_neg (by simp) (ev_now _))
 ·rw [if_neg h]
  exact ev_now _
theorem cmpLL_impl (l m : List S60) (hl : fitL l) (hm : fitL m) : Ev (fun k => impl_compare.f k l m) (cmpLL l m) := by
 have hrd : ∀ (l : List S60) (i : Nat) (h : i < l.length), rd_T60 l (i : Int) = l[i] := fun l i h => getD_lt h
 unfold impl_compare.f
 rw [show mn (l.length : Int) (m.length : Int) = ((min l.length m.length : Nat) : Int) from by unfold mn; split <;> omega]
 refine up_ind (min l.length m.length) (fun i => Ev (fun k => impl_compare.l0 k l m ((min l.length m.length : Nat) : Int) (i : Int)) (cmpLL (l.drop i) (m.drop i))) ?_ ?_ 0 (by omega)
 ·generalize hq : min l.length m.length = q
  refine ev_step (fun _ => impl_compare.l0.eq_2 ..) (ev_neg (by omega) (ev_bind (ev_eq (compare_int _ _)) ?_))
  rcases Nat.lt_or_ge q l.length with h | h
  ·have e : q = m.length := by omega
   rw [List.drop_eq_getElem_cons h, show m.drop q = [] from by rw [e, List.drop_length]]
   unfold cn cmpLL
   rw [if_neg (by omega), if_pos (by omega)]
   exact ev_now _
  ·have e : q = l.length := by omega
   rw [e, List.drop_length]
   by_cases h2 : l.length < m.length
   ·rw [List.drop_eq_getElem_cons h2]
    unfold cn cmpLL
    rw [if_pos (by omega)]
    exact ev_now _
   ·have e2 : l.length = m.length := by omega
    rw [e2, List.drop_length]
    unfold cn cmpLL
    rw [if_neg (by omega), if_neg (by omega)]
    exact ev_now _
 ·intro i h ih
  have h1 : i < l.length := by omega
  have h2 : i < m.length := by omega
  have hl1 := hl.1
  refine ev_step (fun _ => impl_compare.l0.eq_2 ..) (ev_pos (by omega) (ev_pos (by omega) (ev_pos (by omega) (ev_pos (by omega) ?_))))
  rw [hrd l i h1, hrd m i h2, List.drop_eq_getElem_cons h1, List.drop_eq_getElem_cons h2, w64n h1 hl1]
  refine ev_bind (ev_eq (compare_str _ _)) (ev_bind (ev_eq (compare_str _ _)) (ev_bind (or_two _ _) ?_))
  simp only [cmpLL]
  by_cases h3 : cmpL (Y l[i].f0) (Y m[i].f0) = 0
  ·rw [if_pos h3, if_pos h3]
   refine ev_ite (fun h4 => ?_) (fun h4 => ?_)
   ·rw [if_pos h4]
    exact ih
   ·rw [if_neg h4]
    exact ev_now _
  ·rw [if_neg h3, if_neg h3]
   exact ev_neg h3 (ev_now _)
end Go.Proofs.Ythkhflhmnjgbnaa.U
namespace Go.Proofs.Ythkhflhmnjgbnaa.U
open Go.RowKit Go.Proofs.Ythkhflhmnjgbnaa.Pr Go.Proofs.YthkhflhmnjgbnaaW.PrintWords Go.Proofs.YthkhflhmnjgbnaaW.PrintLast Go.Proofs.YthkhflhmnjgbnaaW.PrintMore
set_option linter.unusedVariables false
set_option linter.unusedSimpArgs false
/-- The value under a name. -/
def ofL (n : ByteArray) : List S60 → ByteArray
 | [] => ⟨#[]⟩
 | x :: xs => if Y x.f0 = Y n then x.f1 else ofL n xs
end Go.Proofs.Ythkhflhmnjgbnaa.U
namespace Go.Proofs.Ythkhflhmnjgbnaa.U
open Go.RowKit Go.Proofs.Ythkhflhmnjgbnaa.Pr Go.Proofs.YthkhflhmnjgbnaaW.PrintWords Go.Proofs.YthkhflhmnjgbnaaW.PrintLast Go.Proofs.YthkhflhmnjgbnaaW.PrintMore
set_option linter.unusedVariables false
set_option linter.unusedSimpArgs false
theorem of_impl (l : List S60) (hl : l.length ≤ 9223372036854775807) (n : ByteArray) : Ev (fun k => impl_valueOf.f k l n) (ofL n l) := by
 have hrd : ∀ (i : Nat) (h : i < l.length), rd_T60 l (i : Int) = l[i] := fun i h => getD_lt h
 refine up_ind l.length (fun i => Ev (fun k => impl_valueOf.l0 k n l (l.length : Int) (i : Int)) (ofL n (l.drop i))) ?_ ?_ 0 (by omega)
 ·rw [List.drop_length]
  exact ev_step (fun _ => impl_valueOf.l0.eq_2 ..) (ev_neg (by omega) (ev_now _))
 ·intro i h ih
  refine ev_step (fun _ => impl_valueOf.l0.eq_2 ..) (ev_pos (by omega) (ev_pos (by omega) (ev_pos (by omega) ?_)))
  rw [hrd i h, List.drop_eq_getElem_cons h, w64n h hl, Y_eq, Y_eq]
  simp only [ofL]
  refine ev_ite (fun h1 => ?_) (fun h1 => ?_)
  ·rw [if_pos h1]
   exact ev_now _
  ·rw [if_neg h1]
   exact ih
end Go.Proofs.Ythkhflhmnjgbnaa.U
namespace Go.Proofs.Ythkhflhmnjgbnaa.U
open Go.RowKit Go.Proofs.Ythkhflhmnjgbnaa.Pr Go.Proofs.YthkhflhmnjgbnaaW.PrintWords Go.Proofs.YthkhflhmnjgbnaaW.PrintLast Go.Proofs.YthkhflhmnjgbnaaW.PrintMore
set_option linter.unusedVariables false
set_option linter.unusedSimpArgs false
theorem of_spec (l : List S60) (hl : l.length ≤ 9223372036854775807) (n : ByteArray) : Ev (fun k => spec_l2Of.f k l n) (ofL n l) := by
 have hrd : ∀ (i : Nat) (h : i < l.length), rd_T60 l (i : Int) = l[i] := fun i h => getD_lt h
 refine up_ind l.length (fun i => Ev (fun k => spec_l2Of.l0 k n l (l.length : Int) (i : Int)) (ofL n (l.drop i))) ?_ ?_ 0 (by omega)
 ·rw [List.drop_length]
  exact ev_step (fun _ => spec_l2Of.l0.eq_2 ..) (ev_neg (by omega) (ev_now _))
 ·intro i h ih
  refine ev_step (fun _ => spec_l2Of.l0.eq_2 ..) (ev_pos (by omega) (ev_pos (by omega) (ev_pos (by omega) ?_)))
  rw [hrd i h, List.drop_eq_getElem_cons h, w64n h hl, Y_eq, Y_eq]
  simp only [ofL]
  refine ev_ite (fun h1 => ?_) (fun h1 => ?_)
  ·rw [if_pos h1]
   exact ev_now _
  ·rw [if_neg h1]
   exact ih
end Go.Proofs.Ythkhflhmnjgbnaa.U
namespace Go.Proofs.Ythkhflhmnjgbnaa.U
open Go.RowKit Go.Proofs.Ythkhflhmnjgbnaa.Pr Go.Proofs.YthkhflhmnjgbnaaW.PrintWords Go.Proofs.YthkhflhmnjgbnaaW.PrintLast Go.Proofs.YthkhflhmnjgbnaaW.PrintMore
set_option linter.unusedVariables false
set_option linter.unusedSimpArgs false
/-- Times that rise, from lo on, each one in its range. -/
def incS (lo : Int) : List S70 → Bool
 | [] => true
 | x :: xs => decide (0 ≤ x.f0) && decide (x.f0 ≤ 1000000000000) && decide (lo < x.f0) && incS x.f0 xs
def goodS (l : List S70) : Bool := decide (l.length ≤ 2000) && incS (-1) l
def ptS (l : List S70) (i : Nat) : Int := if i = 0 then -1 else (rd_T70 l ((i - 1 : Nat) : Int)).f0
theorem isTime_yes {x : Int} (h : 0 ≤ x ∧ x ≤ 1000000000000) : impl_isTime.f x = some true ∧ spec_l3Time.f x = some true := by
 unfold impl_isTime.f spec_l3Time.f
 rw [if_pos h.1, decide_eq_true h.2]
 exact ⟨rfl, rfl⟩
theorem isTime_no {x : Int} (h : ¬ (0 ≤ x ∧ x ≤ 1000000000000)) : impl_isTime.f x = some false ∧ spec_l3Time.f x = some false := by
 unfold impl_isTime.f spec_l3Time.f
 by_cases h0 : x ≥ 0
 ·rw [if_pos h0, decide_eq_false (by omega)]
  exact ⟨rfl, rfl⟩
 ·rw [if_neg h0]
  exact ⟨rfl, rfl⟩
theorem gs_impl (l : List S70) (hl : l.length ≤ 9223372036854775807) : ∀ i, i ≤ l.length → Ev (fun k => impl_GoodSamples.l0 k l l (l.length : Int) (i : Int)) ((incS (ptS l i) (l.drop i))) := by
 have hrd : ∀ (i : Nat) (h : i < l.length), rd_T70 l (i : Int) = l[i] := fun i h => getD_lt h
 refine up_ind l.length (fun i => Ev (fun k => impl_GoodSamples.l0 k l l (l.length : Int) (i : Int)) ((incS (ptS l i) (l.drop i)))) ?_ ?_
 ·rw [List.drop_length]
  refine ev_step (fun _ => impl_GoodSamples.l0.eq_2 ..) (ev_neg (by omega) ?_)
  exact ev_now _
 ·intro i h ih
  have hp : ptS l (i + 1) = l[i].f0 := by unfold ptS; rw [if_neg (by omega), Nat.add_sub_cancel, hrd i h]
  rw [hp] at ih
  have wi : wrap64 ((i : Int) + 1) = ((i + 1 : Nat) : Int) := w64n h hl
  refine ev_step (fun _ => impl_GoodSamples.l0.eq_2 ..) (ev_pos (by omega) (ev_pos (by omega) (ev_pos (by omega) ?_)))
  rw [hrd i h, List.drop_eq_getElem_cons h]
  by_cases ht : 0 ≤ l[i].f0 ∧ l[i].f0 ≤ 1000000000000
  ·refine ev_bind (ev_eq (isTime_yes ht).1) (ev_pos rfl ?_)
   by_cases hi : i = 0
   ·subst hi
    have e : incS (ptS l 0) (l[0] :: l.drop (0 + 1)) = incS l[0].f0 (l.drop (0 + 1)) := by simp [incS, ptS, ht]; omega
    rw [e, wi]
    exact ev_neg (by omega) ih
   ·have wm : wrap64 ((i : Int) - 1) = ((i - 1 : Nat) : Int) := by rw [w64 (by omega) (by omega)]; omega
    rw [wm, hrd (i - 1) (by omega)]
    refine ev_pos (by omega) (ev_pos (by omega) (ev_pos (by omega) ?_))
    have hq : ptS l i = l[i - 1].f0 := by unfold ptS; rw [if_neg hi, hrd (i - 1) (by omega)]
    rw [hq]
    by_cases hc : l[i - 1].f0 ≥ l[i].f0
    ·have e : incS l[i - 1].f0 (l[i] :: l.drop (i + 1)) = false := by simp [incS]; omega
     rw [e]
     refine ev_pos hc ?_
     exact ev_now _
    ·have e : incS l[i - 1].f0 (l[i] :: l.drop (i + 1)) = incS l[i].f0 (l.drop (i + 1)) := by simp [incS, ht]; omega
     rw [e, wi]
     exact ev_neg hc ih
  ·have e : incS (ptS l i) (l[i] :: l.drop (i + 1)) = false := by simp [incS]; omega
   rw [e]
   refine ev_bind (ev_eq (isTime_no ht).1) (ev_neg (by decide) ?_)
   exact ev_now _
theorem gs_spec (l : List S70) (hl : l.length ≤ 9223372036854775807) : ∀ i, i ≤ l.length → Ev (fun k => spec_GoodSamples.l0 k l l (l.length : Int) (i : Int)) (decide (l.length ≤ 2000) && (incS (ptS l i) (l.drop i))) := by
 have hrd : ∀ (i : Nat) (h : i < l.length), rd_T70 l (i : Int) = l[i] := fun i h => getD_lt h
 refine up_ind l.length (fun i => Ev (fun k => spec_GoodSamples.l0 k l l (l.length : Int) (i : Int)) (decide (l.length ≤ 2000) && (incS (ptS l i) (l.drop i)))) ?_ ?_
 ·rw [List.drop_length]
  refine ev_step (fun _ => spec_GoodSamples.l0.eq_2 ..) (ev_neg (by omega) ?_)
  rw [show decide ((l.length : Int) ≤ 2000) = (decide (l.length ≤ 2000) && incS (ptS l l.length) []) from by simp [incS]; omega]
  exact ev_now _
 ·intro i h ih
  have hp : ptS l (i + 1) = l[i].f0 := by unfold ptS; rw [if_neg (by omega), Nat.add_sub_cancel, hrd i h]
  rw [hp] at ih
  have wi : wrap64 ((i : Int) + 1) = ((i + 1 : Nat) : Int) := w64n h hl
  refine ev_step (fun _ => spec_GoodSamples.l0.eq_2 ..) (ev_pos (by omega) (ev_pos (by omega) (ev_pos (by omega) ?_)))
  rw [hrd i h, List.drop_eq_getElem_cons h]
  by_cases ht : 0 ≤ l[i].f0 ∧ l[i].f0 ≤ 1000000000000
  ·refine ev_bind (ev_eq (isTime_yes ht).2) (ev_pos rfl ?_)
   by_cases hi : i = 0
   ·subst hi
    have e : incS (ptS l 0) (l[0] :: l.drop (0 + 1)) = incS l[0].f0 (l.drop (0 + 1)) := by simp [incS, ptS, ht]; omega
    rw [e, wi]
    exact ev_neg (by omega) ih
   ·have wm : wrap64 ((i : Int) - 1) = ((i - 1 : Nat) : Int) := by rw [w64 (by omega) (by omega)]; omega
    rw [wm, hrd (i - 1) (by omega)]
    refine ev_pos (by omega) (ev_pos (by omega) (ev_pos (by omega) ?_))
    have hq : ptS l i = l[i - 1].f0 := by unfold ptS; rw [if_neg hi, hrd (i - 1) (by omega)]
    rw [hq]
    by_cases hc : l[i - 1].f0 ≥ l[i].f0
    ·have e : incS l[i - 1].f0 (l[i] :: l.drop (i + 1)) = false := by simp [incS]; omega
     rw [e]
     refine ev_pos hc ?_
     rw [Bool.and_false]
     exact ev_now _
    ·have e : incS l[i - 1].f0 (l[i] :: l.drop (i + 1)) = incS l[i].f0 (l.drop (i + 1)) := by simp [incS, ht]; omega
     rw [e, wi]
     exact ev_neg hc ih
  ·have e : incS (ptS l i) (l[i] :: l.drop (i + 1)) = false := by simp [incS]; omega
   rw [e]
   refine ev_bind (ev_eq (isTime_no ht).2) (ev_neg (by decide) ?_)
   rw [Bool.and_false]
   exact ev_now _
theorem goodSamples_impl (l : List S70) (hl : l.length ≤ 9223372036854775807) : Ev (fun k => impl_GoodSamples.f k l) (goodS l) := by
 unfold impl_GoodSamples.f goodS
 by_cases h : l.length ≤ 2000
 ·rw [decide_eq_true h, Bool.true_and]
  exact ev_neg (by omega) (gs_impl l hl 0 (by omega))
 ·rw [decide_eq_false h, Bool.false_and]
  exact ev_pos (by omega) (ev_now _)
theorem goodSamples_spec (l : List S70) (hl : l.length ≤ 9223372036854775807) : Ev (fun k => spec_GoodSamples.f k l) (goodS l) := by
 unfold spec_GoodSamples.f
 exact gs_spec l hl 0 (by omega)
end Go.Proofs.Ythkhflhmnjgbnaa.U
namespace Go.Proofs.Ythkhflhmnjgbnaa.U
open Go.RowKit Go.Proofs.Ythkhflhmnjgbnaa.Pr Go.Proofs.YthkhflhmnjgbnaaW.PrintWords Go.Proofs.YthkhflhmnjgbnaaW.PrintLast Go.Proofs.YthkhflhmnjgbnaaW.PrintMore
set_option linter.unusedVariables false
set_option linter.unusedSimpArgs false
def sm80 (x : S80) : Prop := x.f0.size ≤ 1048576 ∧ x.f1.size ≤ 1048576
def cv80 (x : S80) : S60 := ⟨x.f0, x.f1⟩
theorem toLabel (x : S80) (hx : sm80 x) : Ev (fun _ => laws_toLabel.f x.f0 x.f1) (x.f0, x.f1) := by
 obtain ⟨h0, h1⟩ := hx
 unfold laws_toLabel.f
 exact ev_now _
theorem eqLabel (x : S60) : Ev (fun _ => laws_eqLabel.f x.f0 x.f1 x.f0 x.f1) true := ev_eq (by simp [laws_eqLabel.f])
def sw80 (x : S80) : Prop := (x.f0.size ≤ maxLen) ∧ (x.f1.size ≤ maxLen)
theorem szLabel (x : S80) (c : Int) (h0 : 0 ≤ c) (h1 : c ≤ 1048576) (hw : sw80 x) : ∃ r, Ev (fun _ => laws_szLabel.f x.f0 x.f1 c) r ∧ r ≤ c ∧ (0 ≤ r → sm80 x) := by
 obtain ⟨w0, w1⟩ := hw
 unfold laws_szLabel.f
 simp only [maxLen] at w0
 rw [w64 (x := c - (x.f0.size : Int)) (by omega) (by omega)]
 by_cases n0 : c - (x.f0.size : Int) < 0
 ·exact ⟨-1, ev_pos n0 (ev_now _), by omega, fun h => absurd h (by decide)⟩
 ·skip
  simp only [maxLen] at w1
  rw [w64 (x := (c - (x.f0.size : Int)) - (x.f1.size : Int)) (by omega) (by omega)]
  by_cases n1 : (c - (x.f0.size : Int)) - (x.f1.size : Int) < 0
  ·exact ⟨-1, ev_neg n0 (ev_pos n1 (ev_now _)), by omega, fun h => absurd h (by decide)⟩
  ·skip
   exact ⟨_, ev_neg n0 (ev_neg n1 (ev_now _)), by omega, fun _ => ⟨by omega, by omega⟩⟩
end Go.Proofs.Ythkhflhmnjgbnaa.U
namespace Go.Proofs.Ythkhflhmnjgbnaa.U
open Go.RowKit Go.Proofs.Ythkhflhmnjgbnaa.Pr Go.Proofs.YthkhflhmnjgbnaaW.PrintWords Go.Proofs.YthkhflhmnjgbnaaW.PrintLast Go.Proofs.YthkhflhmnjgbnaaW.PrintMore
set_option linter.unusedVariables false
set_option linter.unusedSimpArgs false
theorem markText_l (m : Nat) : ∀ (c : Int) (s : ByteArray), 0 ≤ c → c < 10 ^ m → c ≤ 9223372036854775807 → s.size + m < 1000 → ∃ r, Ev (fun k => laws_markText.l0 k c s) r := by
 induction m with
 | zero =>
  intro c s h0 h1 _ h2
  simp at h1
  have hs : 1 + s.size ≤ 9223372036854775807 := by omega
  exact ⟨_, ev_step (fun _ => laws_markText.l0.eq_2 ..) (ev_neg (by omega) (ev_pos hs (ev_now _)))⟩
 | succ m ih =>
  intro c s h0 h1 h1' h2
  by_cases hc : c > 0
  ·rw [Int.pow_succ] at h1
   have e : wrap64 (Int.tdiv c 10) = c / 10 := by rw [Int.tdiv_eq_ediv_of_nonneg h0, w64 (by omega) (by omega)]
   have hz : ∀ x : Int, (strOfNums [x]).size = 1 := fun x => strOfNums_size [x]
   obtain ⟨r, hr⟩ := ih (c / 10) (strOfNums [wrap64 (48 + Int.tmod c 10) % 256] ++ s) (by omega) (by generalize (10 : Int) ^ m = p at h1 ⊢; omega) (by omega) (by rw [ByteArray.size_append, hz]; omega)
   refine ⟨r, ev_step (fun _ => laws_markText.l0.eq_2 ..) (ev_pos hc (ev_some (ev_pos (by rw [hz]; omega) ?_)))⟩
   rw [e]
   exact hr
  ·have hs : 1 + s.size ≤ 9223372036854775807 := by omega
   exact ⟨_, ev_step (fun _ => laws_markText.l0.eq_2 ..) (ev_neg hc (ev_pos hs (ev_now _)))⟩
theorem markText (c : Int) (h0 : 0 < c) (h1 : c ≤ 9223372036854775807) : ∃ r, Ev (fun k => laws_markText.f k c) r := by
 obtain ⟨r, hr⟩ := markText_l 19 c ⟨#[]⟩ (by omega) (Int.lt_of_le_of_lt h1 (by decide)) h1 (by decide)
 refine ⟨r, ?_⟩
 unfold laws_markText.f
 exact ev_neg (by omega) hr
end Go.Proofs.Ythkhflhmnjgbnaa.U
namespace Go.Proofs.Ythkhflhmnjgbnaa.U
open Go.RowKit Go.Proofs.Ythkhflhmnjgbnaa.Pr Go.Proofs.YthkhflhmnjgbnaaW.PrintWords Go.Proofs.YthkhflhmnjgbnaaW.PrintLast Go.Proofs.YthkhflhmnjgbnaaW.PrintMore
set_option linter.unusedVariables false
set_option linter.unusedSimpArgs false
theorem toLabelS (l : List (S80)) (hl : (l.length ≤ 1048576 ∧ ∀ y ∈ l, sm80 y)) : Ev (fun k => laws_toLabelS.f k l) (l.map cv80) := by
 obtain ⟨hl, hs⟩ := hl
 unfold laws_toLabelS.f
 repeat (first | (with_reducible refine ev_pos (by first | omega | rfl | decide) ?_) | (with_reducible refine ev_neg (by first | omega | decide) ?_))
 have key := ev_copy (F := fun k y i => laws_toLabelS.l0 k l y i) cv80 l (List.replicate ((l.length : Int) : Int).toNat z60) (by simp) ?step ?done
 case step =>
  intro i h y r hy hr
  refine ev_step (fun _ => laws_toLabelS.l0.eq_2 ..) ?_
  repeat (first | (with_reducible refine ev_pos (by first | omega | rfl | decide) ?_) | (with_reducible refine ev_neg (by first | omega | decide) ?_))
  rw [(show rd_T80 l (i : Int) = l[i] from getD_lt h)]
  refine ev_bind (toLabel l[i] (hs _ (List.getElem_mem h))) ?_
  repeat (first | (with_reducible refine ev_pos (by first | omega | rfl | decide) ?_) | (with_reducible refine ev_neg (by first | omega | decide) ?_))
  rw [w64n h (by omega), Int.toNat_natCast]
  exact hr
 case done =>
  intro y hy
  refine ev_step (fun _ => laws_toLabelS.l0.eq_2 ..) ?_
  repeat (first | (with_reducible refine ev_pos (by first | omega | rfl | decide) ?_) | (with_reducible refine ev_neg (by first | omega | decide) ?_))
  exact ev_now _
 exact key
theorem eqLabelS (l : List (S60)) (hl : l.length ≤ 1048576) : Ev (fun k => laws_eqLabelS.f k l l) true := by
 unfold laws_eqLabelS.f
 refine ev_pos rfl ?_
 refine up_ind l.length (fun i => Ev (fun k => laws_eqLabelS.l0 k l l (i : Int)) true) ?_ ?_ 0 (by omega)
 ·refine ev_step (fun _ => laws_eqLabelS.l0.eq_2 ..) ?_
  refine ev_neg (by omega) ?_
  exact ev_now _
 ·intro i h ih
  refine ev_step (fun _ => laws_eqLabelS.l0.eq_2 ..) ?_
  repeat (first | (with_reducible refine ev_pos (by first | omega | rfl | decide) ?_) | (with_reducible refine ev_neg (by first | omega | decide) ?_))
  refine ev_bind (eqLabel _) ?_
  refine ev_pos rfl ?_
  rw [w64n h (by omega)]
  exact ih
theorem szLabelS (l : List (S80)) (c : Int) (h0 : 0 ≤ c) (h1 : c ≤ 1048576) (hl : l.length ≤ maxLen) (hw : ∀ x ∈ l, sw80 x) : ∃ r, Ev (fun k => laws_szLabelS.f k l c) r ∧ r ≤ c ∧ (0 ≤ r → (l.length ≤ 1048576 ∧ ∀ y ∈ l, sm80 y)) := by
 simp only [maxLen] at hl
 unfold laws_szLabelS.f
 rw [w64 (x := c - (l.length : Int)) (by omega) (by omega)]
 by_cases hn : c - (l.length : Int) < 0
 ·exact ⟨-1, ev_pos hn (ev_now _), by omega, fun h => absurd h (by decide)⟩
 ·have key := up_ind l.length (fun i => ∀ c : Int, 0 ≤ c → c ≤ 1048576 → ∃ r, Ev (fun k => laws_szLabelS.l0 k l c (i : Int)) r ∧ r ≤ c ∧ (0 ≤ r → ∀ j (h : j < l.length), i ≤ j → sm80 l[j])) ?d ?s 0 (by omega) (c - (l.length : Int)) (by omega) (by omega)
  case d => exact fun c h0 h1 => ⟨c, ev_step (fun _ => laws_szLabelS.l0.eq_2 ..) (ev_neg (by omega) (ev_now _)), Int.le_refl _, fun _ j h hj => by omega⟩
  case s =>
   intro i h ih c h0 h1
   obtain ⟨r1, e1, hr1, hs1⟩ := szLabel l[i] c h0 h1 (hw _ (List.getElem_mem h))
   by_cases hr : r1 < 0
   ·refine ⟨-1, ev_step (fun _ => laws_szLabelS.l0.eq_2 ..) ?_, by omega, fun h => absurd h (by decide)⟩
    repeat (first | (with_reducible refine ev_pos (by first | omega | rfl | decide) ?_) | (with_reducible refine ev_neg (by first | omega | decide) ?_))
    rw [(show rd_T80 l (i : Int) = l[i] from getD_lt h)]
    exact ev_bind e1 (ev_pos hr (ev_now _))
   ·obtain ⟨r, e, hrc, hs⟩ := ih (r1) (by omega) (by omega)
    refine ⟨r, ev_step (fun _ => laws_szLabelS.l0.eq_2 ..) ?_, by omega, fun h2 j hj hij => ?_⟩
    ·repeat (first | (with_reducible refine ev_pos (by first | omega | rfl | decide) ?_) | (with_reducible refine ev_neg (by first | omega | decide) ?_))
     rw [(show rd_T80 l (i : Int) = l[i] from getD_lt h)]
     refine ev_bind e1 (ev_neg hr ?_)
     rw [w64n h (by omega)]
     exact e
    ·by_cases ej : j = i
     ·subst ej
      exact hs1 (by omega)
     ·exact hs h2 j hj (by omega)
  obtain ⟨r, e, hrc, hs⟩ := key
  refine ⟨r, ev_neg hn e, by omega, fun h => ⟨by omega, fun y hy => ?_⟩⟩
  obtain ⟨j, hj, rfl⟩ := List.getElem_of_mem hy
  exact hs h j hj (by omega)
end Go.Proofs.Ythkhflhmnjgbnaa.U
namespace Go.Proofs.Ythkhflhmnjgbnaa.U
open Go.RowKit Go.Proofs.Ythkhflhmnjgbnaa.Pr Go.Proofs.YthkhflhmnjgbnaaW.PrintWords Go.Proofs.YthkhflhmnjgbnaaW.PrintLast Go.Proofs.YthkhflhmnjgbnaaW.PrintMore
set_option linter.unusedVariables false
set_option linter.unusedSimpArgs false
def cv85 (x : S85) : S70 := ⟨x.f0, x.f1⟩
theorem toSample (x : S85) : Ev (fun _ => laws_toSample.f x.f0 x.f1) (x.f0, x.f1) := by
 unfold laws_toSample.f
 exact ev_now _
theorem eqSample (x : S70) : Ev (fun _ => laws_eqSample.f x.f0 x.f1 x.f0 x.f1) true := ev_eq (by simp [laws_eqSample.f])
end Go.Proofs.Ythkhflhmnjgbnaa.U
namespace Go.Proofs.Ythkhflhmnjgbnaa.U
open Go.RowKit Go.Proofs.Ythkhflhmnjgbnaa.Pr Go.Proofs.YthkhflhmnjgbnaaW.PrintWords Go.Proofs.YthkhflhmnjgbnaaW.PrintLast Go.Proofs.YthkhflhmnjgbnaaW.PrintMore
set_option linter.unusedVariables false
set_option linter.unusedSimpArgs false
theorem toSampleS (l : List (S85)) (hl : l.length ≤ 1048576) : Ev (fun k => laws_toSampleS.f k l) (l.map cv85) := by
 unfold laws_toSampleS.f
 repeat (first | (with_reducible refine ev_pos (by first | omega | rfl | decide) ?_) | (with_reducible refine ev_neg (by first | omega | decide) ?_))
 have key := ev_copy (F := fun k y i => laws_toSampleS.l0 k l y i) cv85 l (List.replicate ((l.length : Int) : Int).toNat z70) (by simp) ?step ?done
 case step =>
  intro i h y r hy hr
  refine ev_step (fun _ => laws_toSampleS.l0.eq_2 ..) ?_
  repeat (first | (with_reducible refine ev_pos (by first | omega | rfl | decide) ?_) | (with_reducible refine ev_neg (by first | omega | decide) ?_))
  rw [(show rd_T85 l (i : Int) = l[i] from getD_lt h)]
  refine ev_bind (toSample l[i] ) ?_
  repeat (first | (with_reducible refine ev_pos (by first | omega | rfl | decide) ?_) | (with_reducible refine ev_neg (by first | omega | decide) ?_))
  rw [w64n h (by omega), Int.toNat_natCast]
  exact hr
 case done =>
  intro y hy
  refine ev_step (fun _ => laws_toSampleS.l0.eq_2 ..) ?_
  repeat (first | (with_reducible refine ev_pos (by first | omega | rfl | decide) ?_) | (with_reducible refine ev_neg (by first | omega | decide) ?_))
  exact ev_now _
 exact key
theorem eqSampleS (l : List (S70)) (hl : l.length ≤ 1048576) : Ev (fun k => laws_eqSampleS.f k l l) true := by
 unfold laws_eqSampleS.f
 refine ev_pos rfl ?_
 refine up_ind l.length (fun i => Ev (fun k => laws_eqSampleS.l0 k l l (i : Int)) true) ?_ ?_ 0 (by omega)
 ·refine ev_step (fun _ => laws_eqSampleS.l0.eq_2 ..) ?_
  refine ev_neg (by omega) ?_
  exact ev_now _
 ·intro i h ih
  refine ev_step (fun _ => laws_eqSampleS.l0.eq_2 ..) ?_
  repeat (first | (with_reducible refine ev_pos (by first | omega | rfl | decide) ?_) | (with_reducible refine ev_neg (by first | omega | decide) ?_))
  refine ev_bind (eqSample _) ?_
  refine ev_pos rfl ?_
  rw [w64n h (by omega)]
  exact ih
theorem szSampleS (l : List (S85)) (c : Int) (h0 : 0 ≤ c) (h1 : c ≤ 1048576) (hl : l.length ≤ maxLen)  : ∃ r, Ev (fun _ => laws_szSampleS.f l c) r ∧ r ≤ c ∧ (0 ≤ r → l.length ≤ 1048576) := by
 simp only [maxLen] at hl
 unfold laws_szSampleS.f
 rw [w64 (x := c - (l.length : Int)) (by omega) (by omega)]
 by_cases hn : c - (l.length : Int) < 0
 ·exact ⟨-1, ev_pos hn (ev_now _), by omega, fun h => absurd h (by decide)⟩
 ·exact ⟨_, ev_neg hn (ev_now _), by omega, fun _ => by omega⟩
end Go.Proofs.Ythkhflhmnjgbnaa.U
namespace Go.Proofs.Ythkhflhmnjgbnaa.U
open Go.RowKit Go.Proofs.Ythkhflhmnjgbnaa.Pr Go.Proofs.YthkhflhmnjgbnaaW.PrintWords Go.Proofs.YthkhflhmnjgbnaaW.PrintLast Go.Proofs.YthkhflhmnjgbnaaW.PrintMore
set_option linter.unusedVariables false
set_option linter.unusedSimpArgs false
def sm39 (x : S39) : Prop := (x.f0.length ≤ 1048576 ∧ ∀ y ∈ x.f0, sm80 y) ∧ x.f1.length ≤ 1048576
def cv39 (x : S39) : S44 := ⟨x.f0.map cv80, x.f1.map cv85⟩
theorem toSeries (x : S39) (hx : sm39 x) : Ev (fun k => laws_toSeries.f k x.f0 x.f1) (x.f0.map cv80, x.f1.map cv85) := by
 obtain ⟨h0, h1⟩ := hx
 unfold laws_toSeries.f
 refine ev_bind (toLabelS _ h0) ?_
 refine ev_bind (toSampleS _ h1) ?_
 exact ev_now _
def se44 (x : S44) : Prop := (x.f0.length ≤ 1048576) ∧ (x.f1.length ≤ 1048576)
theorem eqSeries (x : S44) (hx : se44 x) : Ev (fun k => laws_eqSeries.f k x.f0 x.f1 x.f0 x.f1) true := by
 obtain ⟨h0, h1⟩ := hx
 unfold laws_eqSeries.f
 refine ev_bind (eqLabelS _ h0) ?_
 refine ev_pos rfl ?_
 refine ev_bind (eqSampleS _ h1) ?_
 refine ev_pos rfl ?_
 exact ev_now _
def sw39 (x : S39) : Prop := (x.f0.length ≤ maxLen ∧ ∀ y ∈ x.f0, sw80 y) ∧ (x.f1.length ≤ maxLen ∧ ∀ y ∈ x.f1, ((-9223372036854775808 ≤ (y.f0 : Int) ∧ (y.f0 : Int) ≤ 9223372036854775807)) ∧ ((-9223372036854775808 ≤ (y.f1 : Int) ∧ (y.f1 : Int) ≤ 9223372036854775807)))
theorem szSeries (x : S39) (c : Int) (h0 : 0 ≤ c) (h1 : c ≤ 1048576) (hw : sw39 x) : ∃ r, Ev (fun k => laws_szSeries.f k x.f0 x.f1 c) r ∧ r ≤ c ∧ (0 ≤ r → sm39 x) := by
 obtain ⟨w0, w1⟩ := hw
 unfold laws_szSeries.f
 obtain ⟨r0, e0, q0, s0⟩ := szLabelS x.f0 c (by omega) (by omega) w0.1 w0.2
 by_cases n0 : r0 < 0
 ·exact ⟨-1, ev_bind e0 (ev_pos n0 (ev_now _)), by omega, fun h => absurd h (by decide)⟩
 ·skip
  obtain ⟨r1, e1, q1, s1⟩ := szSampleS x.f1 r0 (by omega) (by omega) w1.1
  by_cases n1 : r1 < 0
  ·exact ⟨-1, ev_bind e0 (ev_neg n0 (ev_bind e1 (ev_pos n1 (ev_now _)))), by omega, fun h => absurd h (by decide)⟩
  ·skip
   exact ⟨_, ev_bind e0 (ev_neg n0 (ev_bind e1 (ev_neg n1 (ev_now _)))), by omega, fun _ => ⟨s0 (by omega), s1 (by omega)⟩⟩
end Go.Proofs.Ythkhflhmnjgbnaa.U
namespace Go.Proofs.Ythkhflhmnjgbnaa.U
open Go.RowKit Go.Proofs.Ythkhflhmnjgbnaa.Pr Go.Proofs.YthkhflhmnjgbnaaW.PrintWords Go.Proofs.YthkhflhmnjgbnaaW.PrintLast Go.Proofs.YthkhflhmnjgbnaaW.PrintMore
set_option linter.unusedVariables false
set_option linter.unusedSimpArgs false
theorem toSeriesS (l : List (S39)) (hl : (l.length ≤ 1048576 ∧ ∀ y ∈ l, sm39 y)) : Ev (fun k => laws_toSeriesS.f k l) (l.map cv39) := by
 obtain ⟨hl, hs⟩ := hl
 unfold laws_toSeriesS.f
 repeat (first | (with_reducible refine ev_pos (by first | omega | rfl | decide) ?_) | (with_reducible refine ev_neg (by first | omega | decide) ?_))
 have key := ev_copy (F := fun k y i => laws_toSeriesS.l0 k l y i) cv39 l (List.replicate ((l.length : Int) : Int).toNat z44) (by simp) ?step ?done
 case step =>
  intro i h y r hy hr
  refine ev_step (fun _ => laws_toSeriesS.l0.eq_2 ..) ?_
  repeat (first | (with_reducible refine ev_pos (by first | omega | rfl | decide) ?_) | (with_reducible refine ev_neg (by first | omega | decide) ?_))
  rw [(show rd_T39 l (i : Int) = l[i] from getD_lt h)]
  refine ev_bind (toSeries l[i] (hs _ (List.getElem_mem h))) ?_
  repeat (first | (with_reducible refine ev_pos (by first | omega | rfl | decide) ?_) | (with_reducible refine ev_neg (by first | omega | decide) ?_))
  rw [w64n h (by omega), Int.toNat_natCast]
  exact hr
 case done =>
  intro y hy
  refine ev_step (fun _ => laws_toSeriesS.l0.eq_2 ..) ?_
  repeat (first | (with_reducible refine ev_pos (by first | omega | rfl | decide) ?_) | (with_reducible refine ev_neg (by first | omega | decide) ?_))
  exact ev_now _
 exact key
theorem eqSeriesS (l : List (S44)) (hl : l.length ≤ 1048576) (hs : ∀ x ∈ l, se44 x) : Ev (fun k => laws_eqSeriesS.f k l l) true := by
 unfold laws_eqSeriesS.f
 refine ev_pos rfl ?_
 refine up_ind l.length (fun i => Ev (fun k => laws_eqSeriesS.l0 k l l (i : Int)) true) ?_ ?_ 0 (by omega)
 ·refine ev_step (fun _ => laws_eqSeriesS.l0.eq_2 ..) ?_
  refine ev_neg (by omega) ?_
  exact ev_now _
 ·intro i h ih
  refine ev_step (fun _ => laws_eqSeriesS.l0.eq_2 ..) ?_
  repeat (first | (with_reducible refine ev_pos (by first | omega | rfl | decide) ?_) | (with_reducible refine ev_neg (by first | omega | decide) ?_))
  rw [(show rd_T44 l (i : Int) = l[i] from getD_lt h)]
  refine ev_bind (eqSeries l[i] (hs _ (List.getElem_mem h))) ?_
  refine ev_pos rfl ?_
  rw [w64n h (by omega)]
  exact ih
theorem szSeriesS (l : List (S39)) (c : Int) (h0 : 0 ≤ c) (h1 : c ≤ 1048576) (hl : l.length ≤ maxLen) (hw : ∀ x ∈ l, sw39 x) : ∃ r, Ev (fun k => laws_szSeriesS.f k l c) r ∧ r ≤ c ∧ (0 ≤ r → (l.length ≤ 1048576 ∧ ∀ y ∈ l, sm39 y)) := by
 simp only [maxLen] at hl
 unfold laws_szSeriesS.f
 rw [w64 (x := c - (l.length : Int)) (by omega) (by omega)]
 by_cases hn : c - (l.length : Int) < 0
 ·exact ⟨-1, ev_pos hn (ev_now _), by omega, fun h => absurd h (by decide)⟩
 ·have key := up_ind l.length (fun i => ∀ c : Int, 0 ≤ c → c ≤ 1048576 → ∃ r, Ev (fun k => laws_szSeriesS.l0 k l c (i : Int)) r ∧ r ≤ c ∧ (0 ≤ r → ∀ j (h : j < l.length), i ≤ j → sm39 l[j])) ?d ?s 0 (by omega) (c - (l.length : Int)) (by omega) (by omega)
  case d => exact fun c h0 h1 => ⟨c, ev_step (fun _ => laws_szSeriesS.l0.eq_2 ..) (ev_neg (by omega) (ev_now _)), Int.le_refl _, fun _ j h hj => by omega⟩
  case s =>
   intro i h ih c h0 h1
   obtain ⟨r1, e1, hr1, hs1⟩ := szSeries l[i] c h0 h1 (hw _ (List.getElem_mem h))
   by_cases hr : r1 < 0
   ·refine ⟨-1, ev_step (fun _ => laws_szSeriesS.l0.eq_2 ..) ?_, by omega, fun h => absurd h (by decide)⟩
    repeat (first | (with_reducible refine ev_pos (by first | omega | rfl | decide) ?_) | (with_reducible refine ev_neg (by first | omega | decide) ?_))
    rw [(show rd_T39 l (i : Int) = l[i] from getD_lt h)]
    exact ev_bind e1 (ev_pos hr (ev_now _))
   ·obtain ⟨r, e, hrc, hs⟩ := ih (r1) (by omega) (by omega)
    refine ⟨r, ev_step (fun _ => laws_szSeriesS.l0.eq_2 ..) ?_, by omega, fun h2 j hj hij => ?_⟩
    ·repeat (first | (with_reducible refine ev_pos (by first | omega | rfl | decide) ?_) | (with_reducible refine ev_neg (by first | omega | decide) ?_))
     rw [(show rd_T39 l (i : Int) = l[i] from getD_lt h)]
     refine ev_bind e1 (ev_neg hr ?_)
     rw [w64n h (by omega)]
     exact e
    ·by_cases ej : j = i
     ·subst ej
      exact hs1 (by omega)
     ·exact hs h2 j hj (by omega)
  obtain ⟨r, e, hrc, hs⟩ := key
  refine ⟨r, ev_neg hn e, by omega, fun h => ⟨by omega, fun y hy => ?_⟩⟩
  obtain ⟨j, hj, rfl⟩ := List.getElem_of_mem hy
  exact hs h j hj (by omega)
end Go.Proofs.Ythkhflhmnjgbnaa.U
namespace Go.Proofs.Ythkhflhmnjgbnaa.U
open Go.RowKit Go.Proofs.Ythkhflhmnjgbnaa.Pr Go.Proofs.YthkhflhmnjgbnaaW.PrintWords Go.Proofs.YthkhflhmnjgbnaaW.PrintLast Go.Proofs.YthkhflhmnjgbnaaW.PrintMore
set_option linter.unusedVariables false
set_option linter.unusedSimpArgs false
theorem fitL_cv (l : List S80) (h : l.length ≤ 1048576 ∧ ∀ x ∈ l, sm80 x) : fitL (l.map cv80) := by
 refine ⟨by rw [List.length_map]; omega, fun x hx => ?_⟩
 obtain ⟨y, hy, rfl⟩ := List.mem_map.1 hx
 obtain ⟨h1, h2⟩ := h.2 y hy
 exact ⟨by show y.f0.size ≤ _; omega, by show y.f1.size ≤ _; omega⟩
end Go.Proofs.Ythkhflhmnjgbnaa.U
namespace Go.Proofs.Ythkhflhmnjgbnaa.U
open Go.RowKit Go.Proofs.Ythkhflhmnjgbnaa.Pr Go.Proofs.YthkhflhmnjgbnaaW.PrintWords Go.Proofs.YthkhflhmnjgbnaaW.PrintLast Go.Proofs.YthkhflhmnjgbnaaW.PrintMore
set_option linter.unusedVariables false
set_option linter.unusedSimpArgs false
def namedS (l : List S60) : Bool := goodL l && ((ofL (⟨#[95, 110, 97, 109, 101]⟩ : ByteArray) l).toList != [])
def beforeS (p : Option (List S60)) (l : List S60) : Bool := match p with
 | none => true
 | some q => decide (cmpLL q l < 0)
/-- Series that rise from p on, each with a name of its own and with good samples. -/
def serL (p : Option (List S60)) : List S44 → Bool
 | [] => true
 | x :: xs => namedS x.f0 && decide (x.f1.length ≠ 0) && goodS x.f1 && beforeS p x.f0 && serL (some x.f0) xs
def goodSer (l : List S44) : Bool := decide (l.length ≤ 200) && serL none l
def fitS (l : List S44) : Prop := l.length ≤ 9223372036854775807 ∧ ∀ x ∈ l, fitL x.f0 ∧ x.f1.length ≤ 9223372036854775807
def ptSer (l : List S44) (i : Nat) : Option (List S60) := if i = 0 then none else some (rd_T44 l ((i - 1 : Nat) : Int)).f0
theorem ser_impl (l : List S44) (hf : fitS l) : Ev (fun k => impl_GoodSeries.l0 k l l (l.length : Int) 0) (serL none l) := by
 obtain ⟨hl, hw⟩ := hf
 have hrd : ∀ (i : Nat) (h : i < l.length), rd_T44 l (i : Int) = l[i] := fun i h => getD_lt h
 refine up_ind l.length (fun i => Ev (fun k => impl_GoodSeries.l0 k l l (l.length : Int) (i : Int)) (serL (ptSer l i) (l.drop i))) ?_ ?_ 0 (by omega)
 ·rw [List.drop_length]
  refine ev_step (fun _ => impl_GoodSeries.l0.eq_2 ..) (ev_neg (by omega) ?_)
  exact ev_now _
 ·intro i h ih
  have hp : ptSer l (i + 1) = some l[i].f0 := by unfold ptSer; rw [if_neg (by omega), Nat.add_sub_cancel, hrd i h]
  rw [hp] at ih
  have wi : wrap64 ((i : Int) + 1) = ((i + 1 : Nat) : Int) := w64n h hl
  obtain ⟨fl, fs⟩ := hw l[i] (List.getElem_mem h)
  refine ev_step (fun _ => impl_GoodSeries.l0.eq_2 ..) (ev_pos (by omega) (ev_pos (by omega) (ev_pos (by omega) ?_)))
  rw [hrd i h, List.drop_eq_getElem_cons h]
  simp only [serL, namedS]
  refine ev_bind (goodLabels_impl _ fl) (ev_ite (fun g => ?_) (fun g => ?_))
  ·rw [g, Bool.true_and]
   refine ev_bind (of_impl _ fl.1 _) (ev_ite (fun n => ?_) (fun n => ?_))
   ·rw [n]
    exact ev_now _
   ·rw [show ((ofL (⟨#[95, 110, 97, 109, 101]⟩ : ByteArray) l[i].f0).toList != []) = true from bne_iff_ne.2 n, Bool.true_and]
    refine ev_ite (fun z => ?_) (fun z => ?_)
    ·rw [decide_eq_false (show ¬ l[i].f1.length ≠ 0 from by omega)]
     exact ev_now _
    ·rw [decide_eq_true (show l[i].f1.length ≠ 0 from by omega), Bool.true_and]
     refine ev_bind (goodSamples_impl _ fs) (ev_ite (fun s => ?_) (fun s => ?_))
     ·rw [s, Bool.true_and]
      by_cases hi : i = 0
      ·subst hi
       rw [wi]
       exact ev_neg (by omega) ih
      ·have wm : wrap64 ((i : Int) - 1) = ((i - 1 : Nat) : Int) := by rw [w64 (by omega) (by omega)]; omega
       have hq : ptSer l i = some l[i - 1].f0 := by unfold ptSer; rw [if_neg hi, hrd (i - 1) (by omega)]
       rw [wm, hrd (i - 1) (by omega), hq, wi]
       refine ev_pos (by omega) (ev_pos (by omega) (ev_pos (by omega) (ev_bind (cmpLL_impl _ _ (hw l[i - 1] (List.getElem_mem (by omega))).1 fl) ?_)))
       simp only [beforeS]
       refine ev_ite (fun c => ?_) (fun c => ?_)
       ·rw [decide_eq_false (by omega), Bool.false_and]
        exact ev_now _
       ·rw [decide_eq_true (by omega), Bool.true_and]
        exact ih
     ·rw [Bool.eq_false_iff.2 s]
      exact ev_now _
  ·rw [Bool.eq_false_iff.2 g]
   exact ev_now _
theorem goodSeries_impl (l : List S44) (hf : fitS l) : Ev (fun k => impl_GoodSeries.f k l) (goodSer l) := by
 unfold impl_GoodSeries.f goodSer
 refine ev_ite (fun h => ?_) (fun h => ?_)
 ·rw [decide_eq_false (by omega)]
  exact ev_now _
 ·rw [decide_eq_true (by omega), Bool.true_and]
  exact ser_impl l hf
theorem named_spec (l : List S60) (hf : fitL l) : Ev (fun k => spec_l7Named.f k l) (namedS l) := by
 unfold spec_l7Named.f namedS
 refine ev_bind (goodLabels_spec _ hf) (ev_ite (fun g => ?_) (fun g => ?_))
 ·rw [g, Bool.true_and]
  exact ev_bind (of_spec _ hf.1 _) (ev_now _)
 ·rw [Bool.eq_false_iff.2 g]
  exact ev_now _
theorem ser_spec (l : List S44) (hf : fitS l) : Ev (fun k => spec_GoodSeries.l0 k l l (l.length : Int) 0) (serL none l) := by
 obtain ⟨hl, hw⟩ := hf
 have hrd : ∀ (i : Nat) (h : i < l.length), rd_T44 l (i : Int) = l[i] := fun i h => getD_lt h
 refine up_ind l.length (fun i => Ev (fun k => spec_GoodSeries.l0 k l l (l.length : Int) (i : Int)) (serL (ptSer l i) (l.drop i))) ?_ ?_ 0 (by omega)
 ·rw [List.drop_length]
  refine ev_step (fun _ => spec_GoodSeries.l0.eq_2 ..) (ev_neg (by omega) ?_)
  exact ev_now _
 ·intro i h ih
  have hp : ptSer l (i + 1) = some l[i].f0 := by unfold ptSer; rw [if_neg (by omega), Nat.add_sub_cancel, hrd i h]
  rw [hp] at ih
  have wi : wrap64 ((i : Int) + 1) = ((i + 1 : Nat) : Int) := w64n h hl
  obtain ⟨fl, fs⟩ := hw l[i] (List.getElem_mem h)
  refine ev_step (fun _ => spec_GoodSeries.l0.eq_2 ..) (ev_pos (by omega) (ev_pos (by omega) (ev_pos (by omega) ?_)))
  rw [hrd i h, List.drop_eq_getElem_cons h]
  simp only [serL]
  refine ev_bind (named_spec _ fl) (ev_ite (fun g => ?_) (fun g => ?_))
  ·rw [g, Bool.true_and]
   refine ev_bind (goodSamples_spec _ fs) (ev_ite (fun s => ?_) (fun s => ?_))
   ·rw [s, Bool.and_true]
    refine ev_ite (fun z => ?_) (fun z => ?_)
    ·rw [decide_eq_false (show ¬ l[i].f1.length ≠ 0 from by omega)]
     exact ev_now _
    ·rw [decide_eq_true (show l[i].f1.length ≠ 0 from by omega), Bool.true_and]
     by_cases hi : i = 0
     ·subst hi
      rw [wi]
      exact ev_neg (by omega) ih
     ·have wm : wrap64 ((i : Int) - 1) = ((i - 1 : Nat) : Int) := by rw [w64 (by omega) (by omega)]; omega
      have hq : ptSer l i = some l[i - 1].f0 := by unfold ptSer; rw [if_neg hi, hrd (i - 1) (by omega)]
      rw [wm, hrd (i - 1) (by omega), hq, wi]
      refine ev_pos (by omega) (ev_pos (by omega) (ev_pos (by omega) (ev_bind (cmpLL_spec _ _ (hw l[i - 1] (List.getElem_mem (by omega))).1 fl) ?_)))
      simp only [beforeS]
      refine ev_ite (fun c => ?_) (fun c => ?_)
      ·rw [decide_eq_false (by omega), Bool.false_and]
       exact ev_now _
      ·rw [decide_eq_true (by omega), Bool.true_and]
       exact ih
   ·rw [Bool.eq_false_iff.2 s, Bool.and_false]
    exact ev_now _
  ·rw [Bool.eq_false_iff.2 g]
   exact ev_now _
theorem goodSeries_spec (l : List S44) (hf : fitS l) : Ev (fun k => spec_GoodSeries.f k l) (goodSer l) := by
 unfold spec_GoodSeries.f goodSer
 refine ev_ite (fun h => ?_) (fun h => ?_)
 ·rw [decide_eq_false (by omega)]
  exact ev_now _
 ·rw [decide_eq_true (by omega), Bool.true_and]
  exact ser_spec l hf
theorem fitS_cv (l : List S39) (h : l.length ≤ 1048576 ∧ ∀ x ∈ l, sm39 x) : fitS (l.map cv39) := by
 refine ⟨by rw [List.length_map]; omega, fun x hx => ?_⟩
 obtain ⟨y, hy, rfl⟩ := List.mem_map.1 hx
 obtain ⟨h1, h2⟩ := h.2 y hy
 exact ⟨fitL_cv _ h1, by show (y.f1.map _).length ≤ _; rw [List.length_map]; omega⟩
theorem seS_cv (l : List S39) (h : l.length ≤ 1048576 ∧ ∀ x ∈ l, sm39 x) : ∀ x ∈ l.map cv39, se44 x := by
 intro x hx
 obtain ⟨y, hy, rfl⟩ := List.mem_map.1 hx
 obtain ⟨h1, h2⟩ := h.2 y hy
 exact ⟨by show (y.f0.map _).length ≤ _; rw [List.length_map]; exact h1.1, by show (y.f1.map _).length ≤ _; rw [List.length_map]; exact h2⟩
end Go.Proofs.Ythkhflhmnjgbnaa.U
namespace Go.Proofs.Ythkhflhmnjgbnaa.U
open Go.RowKit Go.Proofs.Ythkhflhmnjgbnaa.Pr Go.Proofs.YthkhflhmnjgbnaaW.PrintWords Go.Proofs.YthkhflhmnjgbnaaW.PrintLast Go.Proofs.YthkhflhmnjgbnaaW.PrintMore
set_option linter.unusedVariables false
set_option linter.unusedSimpArgs false
theorem cmpL_eq : ∀ a b : List UInt8, cmpL a b = 0 → a = b
 | [], [] => fun _ => rfl
 | [], _ :: _ => fun h => absurd h (by simp [cmpL])
 | _ :: _, [] => fun h => absurd h (by simp [cmpL])
 | a :: l, b :: m => by
  intro h
  simp only [cmpL] at h
  by_cases e : (a.toNat : Int) = (b.toNat : Int)
  ·rw [if_pos e] at h
   rw [cmpL_eq l m h, UInt8.toNat_inj.1 (show a.toNat = b.toNat by omega)]
  ·rw [if_neg e] at h
   split at h <;> omega
theorem cmpL_self : ∀ a : List UInt8, cmpL a a = 0
 | [] => rfl
 | a :: l => by
  simp only [cmpL]
  rw [if_pos trivial]
  exact cmpL_self l
theorem cmpL_trans : ∀ a b c : List UInt8, cmpL a b ≤ 0 → cmpL b c ≤ 0 → cmpL a c ≤ 0 ∧ (cmpL a b < 0 ∨ cmpL b c < 0 → cmpL a c < 0)
 | [], [], _ => fun _ h => ⟨h, fun h2 => h2.elim (fun h3 => absurd h3 (by simp [cmpL])) id⟩
 | [], _ :: _, [] => fun _ h => absurd h (by simp [cmpL])
 | [], _ :: _, _ :: _ => fun _ _ => ⟨by simp [cmpL], fun _ => by simp [cmpL]⟩
 | _ :: _, [], _ => fun h => absurd h (by simp [cmpL])
 | _ :: _, _ :: _, [] => fun _ h => absurd h (by simp [cmpL])
 | x :: a, y :: b, z :: c => by
  have ih := cmpL_trans a b c
  simp only [cmpL]
  by_cases h1 : (x.toNat : Int) = (y.toNat : Int)
  ·rw [if_pos h1]
   by_cases h2 : (y.toNat : Int) = (z.toNat : Int)
   ·rw [if_pos h2, if_pos (h1.trans h2)]
    exact ih
   ·rw [if_neg h2, if_neg (show ¬ (x.toNat : Int) = (z.toNat : Int) by omega)]
    by_cases h3 : (y.toNat : Int) < (z.toNat : Int)
    ·rw [if_pos h3, if_pos (show (x.toNat : Int) < (z.toNat : Int) by omega)]
     exact fun _ _ => ⟨by omega, fun _ => by omega⟩
    ·rw [if_neg h3]
     intro _ h
     omega
  ·rw [if_neg h1]
   by_cases h3 : (x.toNat : Int) < (y.toNat : Int)
   ·rw [if_pos h3]
    by_cases h2 : (y.toNat : Int) = (z.toNat : Int)
    ·rw [if_neg (show ¬ (x.toNat : Int) = (z.toNat : Int) by omega), if_pos (show (x.toNat : Int) < (z.toNat : Int) by omega)]
     exact fun _ _ => ⟨by omega, fun _ => by omega⟩
    ·rw [if_neg h2]
     by_cases h4 : (y.toNat : Int) < (z.toNat : Int)
     ·rw [if_neg (show ¬ (x.toNat : Int) = (z.toNat : Int) by omega), if_pos (show (x.toNat : Int) < (z.toNat : Int) by omega)]
      exact fun _ _ => ⟨by omega, fun _ => by omega⟩
     ·rw [if_neg h4]
      intro _ h
      omega
   ·rw [if_neg h3]
    intro h
    omega
end Go.Proofs.Ythkhflhmnjgbnaa.U
namespace Go.Proofs.Ythkhflhmnjgbnaa.U
open Go.RowKit Go.Proofs.Ythkhflhmnjgbnaa.Pr Go.Proofs.YthkhflhmnjgbnaaW.PrintWords Go.Proofs.YthkhflhmnjgbnaaW.PrintLast Go.Proofs.YthkhflhmnjgbnaaW.PrintMore
set_option linter.unusedVariables false
set_option linter.unusedSimpArgs false
end Go.Proofs.Ythkhflhmnjgbnaa.U
namespace Go.Proofs.Ythkhflhmnjgbnaa.U
open Go.RowKit Go.Proofs.Ythkhflhmnjgbnaa.Pr Go.Proofs.YthkhflhmnjgbnaaW.PrintWords Go.Proofs.YthkhflhmnjgbnaaW.PrintLast Go.Proofs.YthkhflhmnjgbnaaW.PrintMore
set_option linter.unusedVariables false
set_option linter.unusedSimpArgs false
theorem lt_cmp : ∀ a b : List UInt8, a < b ↔ cmpL a b < 0
 | [], [] => by simp [cmpL]
 | [], _ :: _ => by simp [cmpL]
 | _ :: _, [] => by simp [cmpL]
 | a :: l, b :: m => by
  rw [List.cons_lt_cons_iff, lt_cmp l m]
  simp only [cmpL]
  by_cases e : (a.toNat : Int) = (b.toNat : Int)
  ·obtain rfl : a = b := UInt8.toNat_inj.1 (by omega)
   rw [if_pos e]
   simp
  ·have hne : a ≠ b := fun h => e (by rw [h])
   rw [if_neg e, UInt8.lt_iff_toNat_lt]
   by_cases h : (a.toNat : Int) < (b.toNat : Int)
   ·rw [if_pos h]
    exact ⟨fun _ => by omega, fun _ => .inl (by omega)⟩
   ·rw [if_neg h]
    exact ⟨fun h2 => h2.elim (fun h3 => by omega) (fun h3 => absurd h3.1 hne), fun h2 => by omega⟩
theorem cmpB_props (d : List (List UInt8)) (hs : d.Pairwise (fun a b => cmpL a b ≤ 0)) : (Go.Lib.compact d).Pairwise (fun a b => cmpL a b < 0) ∧ ∀ x, x ∈ Go.Lib.compact d ↔ x ∈ d := by
 have hg := List.pairwise_iff_getElem.1 hs
 have hb : ∀ m (h : m < d.length), d.toArray[m]! = d[m] := fun m h => by simp [getElem!_pos, h]
 have key : ∀ m, m ≤ d.length → (Go.Lib.compactUpTo d.toArray m).Pairwise (fun a b => cmpL a b < 0) ∧ ∀ x, x ∈ Go.Lib.compactUpTo d.toArray m ↔ ∃ j, ∃ h : j < d.length, j < m ∧ d[j] = x := by
  intro m
  induction m with
  | zero =>
   intro _
   have e0 : Go.Lib.compactUpTo d.toArray 0 = [] := by simp [Go.Lib.compactUpTo]
   rw [e0]
   exact ⟨List.Pairwise.nil, fun x => ⟨fun h => absurd h (by simp), fun ⟨j, _, h, _⟩ => absurd h (by omega)⟩⟩
  | succ m ih =>
   intro hm
   obtain ⟨i1, i2⟩ := ih (by omega)
   rw [Go.Lib.compactUpTo_succ]
   by_cases hk : Go.Lib.keeps d.toArray m = true
   ·rw [if_pos hk, hb m (by omega)]
    have hk2 : m = 0 ∨ d.toArray[m]! ≠ d.toArray[m - 1]! := by simpa [Go.Lib.keeps] using hk
    refine ⟨List.pairwise_append.2 ⟨i1, List.pairwise_singleton _ _, fun x hx y hy => ?_⟩, fun x => ?_⟩
    ·rw [List.mem_singleton] at hy
     subst hy
     obtain ⟨j, hj, hjm, rfl⟩ := (i2 x).1 hx
     rcases hk2 with h0 | h0
     ·omega
     ·rw [hb m (by omega), hb (m - 1) (by omega)] at h0
      have h1 := hg (m - 1) m (by omega) (by omega) (by omega)
      have h3 : cmpL d[m - 1] d[m] < 0 := by
       rcases Int.lt_or_le (cmpL d[m - 1] d[m]) 0 with h | h
       ·exact h
       ·exact absurd (cmpL_eq _ _ (by omega)).symm h0
      by_cases hj1 : j = m - 1
      ·subst hj1
       exact h3
      ·exact (cmpL_trans _ _ _ (hg j (m - 1) hj (by omega) (by omega)) h1).2 (.inr h3)
    ·rw [List.mem_append, i2, List.mem_singleton]
     constructor
     ·rintro (⟨j, hj, hjm, e⟩ | e)
      ·exact ⟨j, hj, by omega, e⟩
      ·exact ⟨m, by omega, by omega, e.symm⟩
     ·rintro ⟨j, hj, hjm, e⟩
      by_cases hjm2 : j = m
      ·subst hjm2
       exact .inr e.symm
      ·exact .inl ⟨j, hj, by omega, e⟩
   ·rw [if_neg hk, List.append_nil]
    have hk2 : ¬ (m = 0 ∨ d.toArray[m]! ≠ d.toArray[m - 1]!) := by simpa [Go.Lib.keeps] using hk
    have h0 : m ≠ 0 := fun e => hk2 (.inl e)
    have h1 : d.toArray[m]! = d.toArray[m - 1]! := Classical.byContradiction fun e => hk2 (.inr e)
    rw [hb m (by omega), hb (m - 1) (by omega)] at h1
    refine ⟨i1, fun x => ?_⟩
    rw [i2]
    constructor
    ·rintro ⟨j, hj, hjm, e⟩
     exact ⟨j, hj, by omega, e⟩
    ·rintro ⟨j, hj, hjm, e⟩
     by_cases hjm2 : j = m
     ·subst hjm2
      exact ⟨j - 1, by omega, by omega, by rw [← h1]; exact e⟩
     ·exact ⟨j, hj, by omega, e⟩
 obtain ⟨k1, k2⟩ := key d.length (Nat.le_refl _)
 refine ⟨k1, fun x => ?_⟩
 show x ∈ Go.Lib.compactUpTo d.toArray d.length ↔ _
 rw [k2, List.mem_iff_getElem]
 exact ⟨fun ⟨j, hj, _, e⟩ => ⟨j, hj, e⟩, fun ⟨j, hj, e⟩ => ⟨j, hj, hj, e⟩⟩
def riseB (l : List ByteArray) : Prop := l.Pairwise fun a b => cmpL (Y a) (Y b) < 0
theorem riseB_eq : ∀ (a b : List ByteArray), riseB a → riseB b → (∀ x, x ∈ a ↔ x ∈ b) → a = b
 | [], [], _, _, _ => rfl
 | [], y :: b, _, _, h => absurd ((h y).2 List.mem_cons_self) (by simp)
 | x :: a, [], _, _, h => absurd ((h x).1 List.mem_cons_self) (by simp)
 | x :: a, y :: b, ha, hb, h => by
  obtain ⟨ha1, ha2⟩ := List.pairwise_cons.1 ha
  obtain ⟨hb1, hb2⟩ := List.pairwise_cons.1 hb
  have e : x = y := by
   have h1 := List.mem_cons.1 ((h x).1 List.mem_cons_self)
   have h2 := List.mem_cons.1 ((h y).2 List.mem_cons_self)
   rcases h1 with h1 | h1
   ·exact h1
   ·rcases h2 with h2 | h2
    ·exact h2.symm
    ·have h3 := hb1 x h1
     have h4 := ha1 y h2
     rw [cmpL_neg] at h3
     omega
  subst e
  rw [riseB_eq a b ha2 hb2 (fun z => ⟨fun hz => ?_, fun hz => ?_⟩)]
  ·rcases List.mem_cons.1 ((h z).1 (List.mem_cons_of_mem _ hz)) with e | e
   ·have := ha1 z hz
    rw [e, cmpL_self] at this
    omega
   ·exact e
  ·rcases List.mem_cons.1 ((h z).2 (List.mem_cons_of_mem _ hz)) with e | e
   ·have := hb1 z hz
    rw [e, cmpL_self] at this
    omega
   ·exact e
theorem sortB (xs : List ByteArray) : riseB (impl_ValuesOf.cmp (impl_ValuesOf.srt xs)) ∧ ∀ x, x ∈ impl_ValuesOf.cmp (impl_ValuesOf.srt xs) ↔ x ∈ xs := by
 have em : ∀ l : List (List UInt8), (l.map fun l => (⟨l.toArray⟩ : ByteArray)).map (fun x => x.data.toList) = l := fun l => by
  rw [List.map_map]
  have : ((fun x : ByteArray => x.data.toList) ∘ fun l : List UInt8 => (⟨l.toArray⟩ : ByteArray)) = id := by
   funext l
   simp
  rw [this, List.map_id]
 unfold impl_ValuesOf.cmp impl_ValuesOf.srt
 rw [em]
 have hs : ((xs.map fun x => x.data.toList).mergeSort fun x y => decide (x ≤ y)).Pairwise (fun a b => cmpL a b ≤ 0) := by
  have := List.pairwise_mergeSort (le := fun x y : List UInt8 => decide (x ≤ y)) (fun x y z h1 h2 => ?_) (fun x y => ?_) (xs.map fun x => x.data.toList)
  ·refine this.imp (fun {a b} h => ?_)
   have h2 : ¬ b < a := of_decide_eq_true h
   rw [lt_cmp, cmpL_neg] at h2
   omega
  ·have h1 : ¬ y < x := of_decide_eq_true h1
   have h2 : ¬ z < y := of_decide_eq_true h2
   rw [lt_cmp, cmpL_neg] at h1 h2
   refine decide_eq_true (show ¬ z < x from ?_)
   rw [lt_cmp, cmpL_neg]
   have := (cmpL_trans x y z (by omega) (by omega)).1
   omega
  ·rw [Bool.or_eq_true]
   by_cases h : cmpL x y ≤ 0
   ·refine .inl (decide_eq_true (show ¬ y < x from ?_))
    rw [lt_cmp, cmpL_neg]
    omega
   ·refine .inr (decide_eq_true (show ¬ x < y from ?_))
    rw [lt_cmp]
    omega
 obtain ⟨h1, h2⟩ := cmpB_props _ hs
 refine ⟨List.pairwise_map.2 (h1.imp (fun {a b} h => ?_)), fun x => ?_⟩
 ·simpa using h
 ·rw [List.mem_map]
  constructor
  ·rintro ⟨a, ha, rfl⟩
   rw [h2, List.mem_mergeSort, List.mem_map] at ha
   obtain ⟨y, hy, rfl⟩ := ha
   exact hy
  ·intro hx
   exact ⟨Y x, by rw [h2, List.mem_mergeSort]; exact List.mem_map.2 ⟨x, hx, rfl⟩, rfl⟩
/-- Where a text belongs in a rising list. -/
def posB (s : ByteArray) : List ByteArray → Nat
 | [] => 0
 | x :: xs => if cmpL (Y x) (Y s) < 0 then posB s xs + 1 else 0
def insB (s : ByteArray) : List ByteArray → List ByteArray
 | [] => [s]
 | x :: xs => if cmpL (Y x) (Y s) < 0 then x :: insB s xs else if x.toList = s.toList then x :: xs else s :: x :: xs
theorem posB_le (s : ByteArray) : ∀ l, posB s l ≤ l.length
 | [] => Nat.le_refl _
 | x :: xs => by
  have := posB_le s xs
  simp only [posB, List.length_cons]
  split <;> omega
theorem insB_eq (s : ByteArray) : ∀ l : List ByteArray, (if posB s l < l.length then (if (l.getD (posB s l) ByteArray.empty).toList = s.toList then l else l.take (posB s l) ++ s :: l.drop (posB s l)) else l.take (posB s l) ++ s :: l.drop (posB s l)) = insB s l
 | [] => rfl
 | x :: xs => by
  have ih := insB_eq s xs
  simp only [insB]
  by_cases h : cmpL (Y x) (Y s) < 0
  ·have e1 : posB s (x :: xs) = posB s xs + 1 := by simp only [posB]; exact if_pos h
   generalize posB s (x :: xs) = p at e1 ⊢
   subst e1
   rw [if_pos h, ← ih]
   generalize posB s xs = p
   simp only [List.length_cons, List.getD_cons_succ, List.take_succ_cons, List.drop_succ_cons]
   by_cases h1 : p < xs.length
   ·rw [if_pos h1, if_pos (by omega)]
    by_cases h2 : (xs.getD p ByteArray.empty).toList = s.toList
    ·rw [if_pos h2, if_pos h2]
    ·rw [if_neg h2, if_neg h2]
     rfl
   ·rw [if_neg h1, if_neg (by omega)]
    rfl
  ·have e1 : posB s (x :: xs) = 0 := by simp only [posB]; exact if_neg h
   generalize posB s (x :: xs) = p at e1 ⊢
   subst e1
   rw [if_neg h]
   simp
theorem insB_mem (s : ByteArray) : ∀ (l : List ByteArray) (y : ByteArray), y ∈ insB s l ↔ y = s ∨ y ∈ l
 | [], y => by simp [insB]
 | x :: xs, y => by
  have ih := insB_mem s xs y
  simp only [insB]
  split
  ·rw [List.mem_cons, ih, List.mem_cons]
   exact ⟨fun h => h.elim (fun h => .inr (.inl h)) (fun h => h.elim .inl (fun h => .inr (.inr h))), fun h => h.elim (fun h => .inr (.inl h)) (fun h => h.elim .inl (fun h => .inr (.inr h)))⟩
  ·split
   ·rename_i h
    rw [Y_eq, Y_eq] at h
    have := Y_inj h
    subst this
    rw [List.mem_cons]
    exact ⟨.inr, fun h => h.elim .inl id⟩
   ·rw [List.mem_cons]
theorem insB_rise (s : ByteArray) : ∀ l : List ByteArray, riseB l → riseB (insB s l)
 | [] => fun _ => List.pairwise_singleton _ _
 | x :: xs => fun h => by
  obtain ⟨h1, h2⟩ := List.pairwise_cons.1 h
  simp only [insB]
  split
  ·rename_i h3
   refine List.pairwise_cons.2 ⟨fun y hy => ?_, insB_rise s xs h2⟩
   rcases (insB_mem s xs y).1 hy with rfl | hy
   ·exact h3
   ·exact h1 y hy
  ·split
   ·exact h
   ·rename_i h3 h4
    rw [Y_eq, Y_eq] at h4
    have h5 : cmpL (Y s) (Y x) < 0 := by
     rw [cmpL_neg]
     rcases Int.lt_or_le 0 (cmpL (Y x) (Y s)) with h | h
     ·omega
     ·exact absurd (cmpL_eq _ _ (by omega)) h4
    refine List.pairwise_cons.2 ⟨fun y hy => ?_, h⟩
    rcases List.mem_cons.1 hy with rfl | hy
    ·exact h5
    ·exact (cmpL_trans _ _ _ (Int.le_of_lt h5) (Int.le_of_lt (h1 y hy))).2 (.inl h5)
theorem insB_len (s : ByteArray) : ∀ l : List ByteArray, (insB s l).length ≤ l.length + 1
 | [] => Nat.le_refl _
 | x :: xs => by
  have := insB_len s xs
  simp only [insB]
  split
  ·simp only [List.length_cons]; omega
  ·split <;> simp
def foldB (acc vs : List ByteArray) : List ByteArray := vs.foldl (fun a v => insB v a) acc
theorem foldB_props : ∀ (vs acc : List ByteArray), riseB acc → riseB (foldB acc vs) ∧ (∀ y, y ∈ foldB acc vs ↔ y ∈ acc ∨ y ∈ vs) ∧ (foldB acc vs).length ≤ acc.length + vs.length
 | [], acc => fun h => ⟨h, fun y => ⟨.inl, fun h => h.elim id (fun h => by cases h)⟩, Nat.le_refl _⟩
 | v :: vs, acc => fun h => by
  obtain ⟨h1, h2, h3⟩ := foldB_props vs (insB v acc) (insB_rise v acc h)
  have := insB_len v acc
  refine ⟨h1, fun y => ?_, ?_⟩
  ·show y ∈ foldB (insB v acc) vs ↔ _
   rw [h2, insB_mem, List.mem_cons]
   exact ⟨fun h => h.elim (fun h => h.elim (fun h => .inr (.inl h)) .inl) (fun h => .inr (.inr h)), fun h => h.elim (fun h => .inl (.inr h)) (fun h => h.elim (fun h => .inl (.inl h)) .inr)⟩
  ·show (foldB (insB v acc) vs).length ≤ _
   simp only [List.length_cons]
   omega
theorem insB_spec (s : ByteArray) (l : List ByteArray) (hl : l.length ≤ 1048576) (hs : s.size ≤ 9223372036854775807) (hz : ∀ x ∈ l, x.size ≤ 9223372036854775807) : Ev (fun k => spec_l7Insert.f k l s) (insB s l) := by
 have key : Ev (fun k => spec_l7Insert.l0 k l s 0) (posB s l : Int) := by
  have := up_ind l.length (fun i => Ev (fun k => spec_l7Insert.l0 k l s (i : Int)) ((i + posB s (l.drop i) : Nat) : Int)) ?_ ?_ 0 (by omega)
  ·simpa using this
  ·rw [List.drop_length]
   exact ev_step (fun _ => spec_l7Insert.l0.eq_2 ..) (ev_neg (by omega) (ev_now _))
  ·intro i h ih
   refine ev_step (fun _ => spec_l7Insert.l0.eq_2 ..) (ev_pos (by omega) (ev_pos (by omega) ?_))
   rw [rdOf_at h, List.drop_eq_getElem_cons h, w64n h (by omega)]
   refine ev_bind (cmp_spec _ _ (hz _ (List.getElem_mem h)) hs) ?_
   simp only [posB]
   refine ev_ite (fun h1 => ?_) (fun h1 => ?_)
   ·rw [if_pos h1, show i + (posB s (List.drop (i + 1) l) + 1) = i + 1 + posB s (List.drop (i + 1) l) from by omega]
    exact ih
   ·rw [if_neg h1]
    exact ev_now _
 unfold spec_l7Insert.f
 have hp := posB_le s l
 refine ev_bind key (ev_pos (by omega) (ev_pos (by omega) (ev_pos (by omega) ?_)))
 rw [← insB_eq s l]
 simp only [Int.toNat_natCast, rdOf]
 refine ev_ite (fun h => ?_) (fun h => ?_)
 ·rw [if_pos (by omega)]
  refine ev_ite (fun h1 => ?_) (fun h1 => ?_)
  ·rw [if_pos h1]
   exact ev_now _
  ·rw [if_neg h1]
   exact ev_now _
 ·rw [if_neg (by omega)]
  exact ev_now _
def valsB (n : ByteArray) (l : List S44) : List ByteArray := (l.map fun s => ofL n s.f0).filter fun v => decide (¬ v.toList = [])
theorem valsB_len (n : ByteArray) (l : List S44) : (valsB n l).length ≤ l.length := by
 have := List.length_filter_le (fun v : ByteArray => decide (¬ v.toList = [])) (l.map fun s => ofL n s.f0)
 rw [List.length_map] at this
 exact this
theorem valsB_cons (n : ByteArray) (s : S44) (l : List S44) : valsB n (s :: l) = if (ofL n s.f0).toList = [] then valsB n l else ofL n s.f0 :: valsB n l := by
 unfold valsB
 rw [List.map_cons, List.filter_cons]
 by_cases h : (ofL n s.f0).toList = []
 ·rw [if_neg (by simp [h]), if_pos h]
 ·rw [if_pos (decide_eq_true h), if_neg h]
theorem vals_impl (n : ByteArray) (l : List S44) (hl : l.length ≤ 200) (hs : ∀ x ∈ l, x.f0.length ≤ 9223372036854775807) : Ev (fun k => impl_ValuesOf.l0 k n [] l (l.length : Int) 0) (impl_ValuesOf.cmp (impl_ValuesOf.srt (valsB n l))) := by
 have hrd : ∀ (i : Nat) (h : i < l.length), rd_T44 l (i : Int) = l[i] := fun i h => getD_lt h
 have key := up_ind l.length (fun i => ∀ acc : List ByteArray, acc.length ≤ i → Ev (fun k => impl_ValuesOf.l0 k n acc l (l.length : Int) (i : Int)) (impl_ValuesOf.cmp (impl_ValuesOf.srt (acc ++ valsB n (l.drop i))))) ?_ ?_ 0 (by omega) [] (by simp)
 ·exact key
 ·intro acc ha
  rw [List.drop_length, show valsB n [] = [] from rfl, List.append_nil]
  exact ev_step (fun _ => impl_ValuesOf.l0.eq_2 ..) (ev_neg (by omega) (ev_pos (by omega) (ev_now _)))
 ·intro i h ih acc ha
  refine ev_step (fun _ => impl_ValuesOf.l0.eq_2 ..) (ev_pos (by omega) (ev_pos (by omega) (ev_pos (by omega) ?_)))
  rw [hrd i h, List.drop_eq_getElem_cons h, w64n h (by omega), valsB_cons]
  refine ev_bind (of_impl _ (hs _ (List.getElem_mem h)) n) (ev_ite (fun h1 => ?_) (fun h1 => ?_))
  ·rw [if_pos h1]
   exact ih acc (by omega)
  ·rw [if_neg h1]
   have := ih (acc ++ [ofL n l[i].f0]) (by rw [List.length_append, List.length_singleton]; omega)
   rw [List.append_assoc] at this
   exact ev_pos (by omega) this
theorem ofL_fit (n : ByteArray) : ∀ l : List S60, (∀ x ∈ l, x.f1.size ≤ 9223372036854775807) → (ofL n l).size ≤ 9223372036854775807 := by
 intro l
 induction l with
 | nil => intro _; exact Nat.zero_le _
 | cons y l ih =>
  intro h
  simp only [ofL]
  split
  ·exact h _ List.mem_cons_self
  ·exact ih (fun x hx => h x (List.mem_cons_of_mem _ hx))
theorem vals_spec (n : ByteArray) (l : List S44) (hl : l.length ≤ 200) (hs : ∀ x ∈ l, x.f0.length ≤ 9223372036854775807 ∧ ∀ y ∈ x.f0, y.f1.size ≤ 9223372036854775807) : Ev (fun k => spec_ValuesOf.l0 k n [] l (l.length : Int) 0) (foldB [] (valsB n l)) := by
 have hrd : ∀ (i : Nat) (h : i < l.length), rd_T44 l (i : Int) = l[i] := fun i h => getD_lt h
 have key := up_ind l.length (fun i => ∀ acc : List ByteArray, acc.length ≤ i → (∀ x ∈ acc, x.size ≤ 9223372036854775807) → Ev (fun k => spec_ValuesOf.l0 k n acc l (l.length : Int) (i : Int)) (foldB acc (valsB n (l.drop i)))) ?_ ?_ 0 (by omega) [] (by simp) (fun x hx => by cases hx)
 ·exact key
 ·intro acc ha hz
  rw [List.drop_length]
  exact ev_step (fun _ => spec_ValuesOf.l0.eq_2 ..) (ev_neg (by omega) (ev_now _))
 ·intro i h ih acc ha hz
  refine ev_step (fun _ => spec_ValuesOf.l0.eq_2 ..) (ev_pos (by omega) (ev_pos (by omega) (ev_pos (by omega) ?_)))
  rw [hrd i h, List.drop_eq_getElem_cons h, w64n h (by omega), valsB_cons]
  obtain ⟨b0, b1⟩ := hs _ (List.getElem_mem h)
  refine ev_bind (of_spec _ b0 n) (ev_ite (fun h1 => ?_) (fun h1 => ?_))
  ·rw [if_pos h1]
   exact ih acc (by omega) hz
  ·rw [if_neg h1]
   have hv := ofL_fit n _ b1
   have hn := insB_len (ofL n l[i].f0) acc
   exact ev_bind (insB_spec _ acc (by omega) hv hz) (ih (insB (ofL n l[i].f0) acc) (by omega) (fun x hx => ((insB_mem _ _ x).1 hx).elim (fun e => by rw [e]; exact hv) (hz x)))
theorem values_two (n : ByteArray) (l : List S44) (hf : fitS l) : ∃ v : List ByteArray, v.length ≤ 1048576 ∧ Ev (fun k => impl_ValuesOf.f k l n) v ∧ Ev (fun k => spec_ValuesOf.f k l n) v := by
 unfold impl_ValuesOf.f spec_ValuesOf.f
 by_cases hg : goodSer l = true
 ·have hl : l.length ≤ 200 := by
   unfold goodSer at hg
   exact of_decide_eq_true (Bool.and_eq_true_iff.1 hg).1
  have hs : ∀ x ∈ l, x.f0.length ≤ 9223372036854775807 ∧ ∀ y ∈ x.f0, y.f1.size ≤ 9223372036854775807 := fun x hx => ⟨(hf.2 x hx).1.1, fun y hy => ((hf.2 x hx).1.2 y hy).2⟩
  obtain ⟨f1, f2, f3⟩ := foldB_props (valsB n l) [] List.Pairwise.nil
  obtain ⟨s1, s2⟩ := sortB (valsB n l)
  have e : impl_ValuesOf.cmp (impl_ValuesOf.srt (valsB n l)) = foldB [] (valsB n l) := riseB_eq _ _ s1 f1 (fun x => by rw [s2, f2]; exact ⟨.inr, fun h => h.elim (fun h => by cases h) id⟩)
  have hn := valsB_len n l
  refine ⟨foldB [] (valsB n l), by simp only [List.length_nil] at f3; omega, ev_bind (goodSeries_impl l hf) (ev_pos hg ?_), ev_bind (goodSeries_spec l hf) (ev_pos hg (vals_spec n l hl hs))⟩
  rw [← e]
  exact vals_impl n l hl (fun x hx => (hs x hx).1)
 ·exact ⟨[], by simp, ev_bind (goodSeries_impl l hf) (ev_neg hg (ev_now _)), ev_bind (goodSeries_spec l hf) (ev_neg hg (ev_now _))⟩
end Go.Proofs.Ythkhflhmnjgbnaa.U
namespace Go.Proofs.Ythkhflhmnjgbnaa.U
open Go.RowKit Go.Proofs.Ythkhflhmnjgbnaa.Pr Go.Proofs.YthkhflhmnjgbnaaW.PrintWords Go.Proofs.YthkhflhmnjgbnaaW.PrintLast Go.Proofs.YthkhflhmnjgbnaaW.PrintMore
set_option linter.unusedVariables false
set_option linter.unusedSimpArgs false
theorem mark_labels (n : Nat) (hn : n ≤ 1048576) : ∀ (d i : Nat) (x : List S60) (c : Int), x.length = n → i + d = n → 0 < c → c + 2 * d ≤ 9000000000000000000 → ∃ y, Ev (fun k => laws_markLabelS.l0 k x c (i : Int)) (c + 2 * d, y) := by
 intro d
 induction d with
 | zero =>
  intro i x c hx hi h0 h1
  refine ⟨x, ev_step (fun _ => laws_markLabelS.l0.eq_2 ..) (ev_neg (by omega) ?_)⟩
  rw [show c + 2 * ((0 : Nat) : Int) = c from by omega]
  exact ev_now _
 | succ d ih =>
  intro i x c hx hi h0 h1
  obtain ⟨s, es⟩ := markText c h0 (by omega)
  obtain ⟨s2, es2⟩ := markText (c + 1) (by omega) (by omega)
  obtain ⟨y, e⟩ := ih (i + 1) ((x.set i ⟨s, (rd_T60 x (i : Int)).f1⟩).set i ⟨(rd_T60 (x.set i ⟨s, (rd_T60 x (i : Int)).f1⟩) (i : Int)).f0, s2⟩) (c + 2) (by simp [hx]) (by omega) (by omega) (by omega)
  refine ⟨y, ev_step (fun _ => laws_markLabelS.l0.eq_2 ..) (ev_pos (by omega) (ev_bind es (ev_pos (by omega) (ev_some ?_))))⟩
  rw [w64 (x := c + 1) (by omega) (by omega), w64 (x := c + 1 + 1) (by omega) (by omega), w64n (show i < n from by omega) (by omega), Int.toNat_natCast, show c + 2 * ((d + 1 : Nat) : Int) = c + 2 + 2 * (d : Int) from by omega, show c + 1 + 1 = c + 2 from by omega]
  exact ev_bind es2 e
theorem mark_samples (n : Nat) (hn : n ≤ 1048576) : ∀ (d i : Nat) (x : List S70) (c : Int), x.length = n → i + d = n → 0 < c → c + 2 * d ≤ 9000000000000000000 → ∃ y, Ev (fun k => laws_markSampleS.l0 k x c (i : Int)) (c + 2 * d, y) := by
 intro d
 induction d with
 | zero =>
  intro i x c hx hi h0 h1
  refine ⟨x, ev_step (fun _ => laws_markSampleS.l0.eq_2 ..) (ev_neg (by omega) ?_)⟩
  rw [show c + 2 * ((0 : Nat) : Int) = c from by omega]
  exact ev_now _
 | succ d ih =>
  intro i x c hx hi h0 h1
  obtain ⟨y, e⟩ := ih (i + 1) ((x.set i ⟨c, (rd_T70 x (i : Int)).f1⟩).set i ⟨(rd_T70 (x.set i ⟨c, (rd_T70 x (i : Int)).f1⟩) (i : Int)).f0, c + 1⟩) (c + 2) (by simp [hx]) (by omega) (by omega) (by omega)
  refine ⟨y, ev_step (fun _ => laws_markSampleS.l0.eq_2 ..) (ev_pos (by omega) (ev_pos (by omega) (ev_some ?_)))⟩
  rw [w64 (x := c + 1) (by omega) (by omega), w64 (x := c + 1 + 1) (by omega) (by omega), w64n (show i < n from by omega) (by omega), Int.toNat_natCast, show c + 2 * ((d + 1 : Nat) : Int) = c + 2 + 2 * (d : Int) from by omega, show c + 1 + 1 = c + 2 from by omega]
  exact e
end Go.Proofs.Ythkhflhmnjgbnaa.U
namespace Go.Proofs.Ythkhflhmnjgbnaa.U
open Go.RowKit Go.Proofs.Ythkhflhmnjgbnaa.Pr Go.Proofs.YthkhflhmnjgbnaaW.PrintWords Go.Proofs.YthkhflhmnjgbnaaW.PrintLast Go.Proofs.YthkhflhmnjgbnaaW.PrintMore
set_option linter.unusedVariables false
set_option linter.unusedSimpArgs false
theorem mark_series1_l (n : Nat) (hn : n ≤ 1048576) : ∀ (d i : Nat) (x : List S44) (c : Int), x.length = n → i + d = n → (∀ s ∈ x.drop i, s.f0.length ≤ 1048576 ∧ s.f1.length ≤ 1048576) → 0 < c → c + 4194304 * d ≤ 4000000000000000000 → ∃ y c', Ev (fun k => laws_markSeriesS.l0 k x c (i : Int)) (c', y) ∧ c ≤ c' ∧ c' ≤ c + 4194304 * d := by
 intro d
 induction d with
 | zero =>
  intro i x c hx hi hs h0 h1
  exact ⟨x, c, ev_step (fun _ => laws_markSeriesS.l0.eq_2 ..) (ev_neg (by omega) (ev_now _)), Int.le_refl _, by omega⟩
 | succ d ih =>
  intro i x c hx hi hs h0 h1
  have hix : i < x.length := by omega
  have hrd : rd_T44 x (i : Int) = x[i] := getD_lt hix
  rw [List.drop_eq_getElem_cons hix] at hs
  obtain ⟨b0, b1⟩ := hs x[i] List.mem_cons_self
  have hs' := fun r h => hs r (List.mem_cons_of_mem _ h)
  obtain ⟨y0, m0⟩ := mark_labels x[i].f0.length b0 x[i].f0.length 0 x[i].f0 c rfl (by omega) h0 (by omega)
  obtain ⟨c0, hc0⟩ : ∃ c0 : Int, c0 = c + 2 * (x[i].f0.length : Int) := ⟨_, rfl⟩
  rw [← hc0] at m0
  obtain ⟨y1, m1⟩ := mark_samples x[i].f1.length b1 x[i].f1.length 0 x[i].f1 c0 rfl (by omega) (by omega) (by omega)
  obtain ⟨c1, hc1⟩ : ∃ c1 : Int, c1 = c0 + 2 * (x[i].f1.length : Int) := ⟨_, rfl⟩
  rw [← hc1] at m1
  have wi : wrap64 ((i : Int) + 1) = ((i + 1 : Nat) : Int) := w64n (show i < n from by omega) (by omega)
  obtain ⟨y, c', e2, q2, p2⟩ := ih (i + 1) (x.set i ⟨y0, y1⟩) c1 (by simp [hx]) (by omega) (by rw [List.drop_set_of_lt (by omega)]; exact hs') (by omega) (by omega)
  have a1 : c ≤ c' := by omega
  have a2 : c' ≤ c + 4194304 * ((d + 1 : Nat) : Int) := by omega
  have l1 : (i : Int) < (x.length : Int) := by omega
  have l3 : 0 ≤ (i : Int) := by omega
  clear h1 p2 q2
  refine ⟨y, c', ev_step (fun _ => laws_markSeriesS.l0.eq_2 ..) (ev_pos l1 (ev_pos l3 ?_)), a1, a2⟩
  rw [hrd, wi, Int.toNat_natCast]
  exact ev_bind (a := (c0, y0)) (by unfold laws_markLabelS.f; exact m0) (ev_bind (a := (c1, y1)) (by unfold laws_markSampleS.f; exact m1) e2)
theorem mark_series1 (l : List S44) (hl : l.length ≤ 1048576) (hs : ∀ x ∈ l, x.f0.length ≤ 1048576 ∧ x.f1.length ≤ 1048576) (c : Int) (h0 : 0 < c) (h1 : c ≤ 1000000000000000) : ∃ y c', Ev (fun k => laws_markSeriesS.f k l c) (c', y) ∧ c ≤ c' ∧ c' ≤ 1010000000000000 := by
 obtain ⟨y, c', e1, q1, p1⟩ := mark_series1_l l.length hl l.length 0 l c rfl (by omega) (by simpa using hs) h0 (by omega)
 exact ⟨y, c', e1, q1, by omega⟩
end Go.Proofs.Ythkhflhmnjgbnaa.U
namespace Go.Proofs.Ythkhflhmnjgbnaa.U
open Go.RowKit Go.Proofs.Ythkhflhmnjgbnaa.Pr Go.Proofs.YthkhflhmnjgbnaaW.PrintWords Go.Proofs.YthkhflhmnjgbnaaW.PrintLast Go.Proofs.YthkhflhmnjgbnaaW.PrintMore
set_option linter.unusedVariables false
set_option linter.unusedSimpArgs false
theorem eqStringS (l : List ByteArray) (hl : l.length ≤ 1048576) : Ev (fun k => laws_eqStringS.f k l l) true := by
 unfold laws_eqStringS.f
 refine ev_pos rfl ?_
 refine up_ind l.length (fun i => Ev (fun k => laws_eqStringS.l0 k l l (i : Int)) true) ?_ ?_ 0 (by omega)
 ·refine ev_step (fun _ => laws_eqStringS.l0.eq_2 ..) ?_
  refine ev_neg (by omega) ?_
  exact ev_now _
 ·intro i h ih
  refine ev_step (fun _ => laws_eqStringS.l0.eq_2 ..) ?_
  repeat (first | (with_reducible refine ev_pos (by first | omega | rfl | decide) ?_) | (with_reducible refine ev_neg (by first | omega | decide) ?_))
  rw [w64n h (by omega)]
  exact ih
theorem markStringS (l : List ByteArray) (hl : l.length ≤ 1048576) (c : Int) (h0 : 0 < c) (h1 : c ≤ 4611686018427387904) : ∃ y c', Ev (fun k => laws_markStringS.f k l c) (c', y) ∧ Ev (fun k => laws_heldStringS.f k y c) c' ∧ c ≤ c' ∧ c' ≤ c + 1 * l.length := by
 have key := up_ind l.length (fun i => ∀ (x : List ByteArray) (c : Int), x.length = l.length → 0 < c → c + 1 * (l.length - i : Nat) ≤ 9000000000000000000 → ∃ y c', Ev (fun k => laws_markStringS.l0 k x c (i : Int)) (c', y) ∧ Ev (fun k => laws_heldStringS.l0 k y c (i : Int)) c' ∧ y.length = l.length ∧ (∀ j, j < i → y[j]? = x[j]?) ∧ c ≤ c' ∧ c' ≤ c + 1 * (l.length - i : Nat)) ?d ?s 0 (by omega) l c rfl h0 (by omega)
 case d =>
  intro x c hx h0 h1
  refine ⟨x, c, ev_step (fun _ => laws_markStringS.l0.eq_2 ..) (ev_neg (by omega) (ev_now _)), ev_step (fun _ => laws_heldStringS.l0.eq_2 ..) (ev_neg (by omega) (ev_now _)), hx, fun _ _ => rfl, by omega, by omega⟩
 case s =>
  intro i h ih x c hx h0 h1
  obtain ⟨s, es⟩ := markText c h0 (by omega)
  obtain ⟨y, c', e1, e2, hy, hj, q1, q2⟩ := ih (x.set i s) (c + 1) (by simp [hx]) (by omega) (by omega)
  refine ⟨y, c', ev_step (fun _ => laws_markStringS.l0.eq_2 ..) ?_, ev_step (fun _ => laws_heldStringS.l0.eq_2 ..) ?_, hy, fun j h' => ?_, by omega, by omega⟩
  ·repeat (first | (with_reducible refine ev_pos (by first | omega | rfl | decide) ?_) | (with_reducible refine ev_neg (by first | omega | decide) ?_))
   refine ev_bind es ?_
   repeat (first | (with_reducible refine ev_pos (by first | omega | rfl | decide) ?_) | (with_reducible refine ev_neg (by first | omega | decide) ?_))
   rw [w64 (x := c + 1) (by omega) (by omega), w64n h (by omega), Int.toNat_natCast]
   exact e1
  ·repeat (first | (with_reducible refine ev_pos (by first | omega | rfl | decide) ?_) | (with_reducible refine ev_neg (by first | omega | decide) ?_))
   have ey : rdOf ByteArray.empty y (i : Int) = s := by
    have := hj i (by omega)
    rw [List.getElem?_set_self (by omega), List.getElem?_eq_getElem (by omega)] at this
    rw [rdOf_at (by omega)]
    exact Option.some.inj this
   rw [ey]
   refine ev_bind es (ev_pos rfl ?_)
   rw [w64 (x := c + 1) (by omega) (by omega), w64n h (by omega)]
   exact e2
  ·rw [hj j (by omega), List.getElem?_set_ne (by omega)]
 obtain ⟨y, c', e1, e2, _, _, q1, q2⟩ := key
 exact ⟨y, c', e1, e2, q1, by omega⟩
end Go.Proofs.Ythkhflhmnjgbnaa.U

