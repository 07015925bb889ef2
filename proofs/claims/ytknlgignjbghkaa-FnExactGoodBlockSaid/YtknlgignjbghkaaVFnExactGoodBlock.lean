/- Plain lemmas over the printed functions, for the law FnExactGoodBlock; each theorem states its own conditions. -/
import Derived.Test.YtknlgignjbghkaaPrx0
import Derived.Test.YtknlgignjbghkaaPrxg5da37n1
import Derived.Test.YtknlgignjbghkaaPrxg5da37n2
import Derived.Test.YtknlgignjbghkaaPrxg61164n1
import Derived.Test.YtknlgignjbghkaaPrxg61164n2
import Derived.Test.YtknlgignjbghkaaPrxg61164n3
import Derived.Test.YtknlgignjbghkaaPrxg97d69n1
import Derived.Test.YtknlgignjbghkaaPrxgeba1cn1
import Derived.Test.YtknlgignjbghkaaPrxgeba1cn2
import Derived.Test.YtknlgignjbghkaaPrxgeba1cn3
import Derived.Test.YtknlgignjbghkaaPrxgeba1cn4
import Derived.Test.YtknlgignjbghkaaPrxgeba1cn5
namespace Go.Proofs.Ytknlgignjbghkaa.U
open Go.RowKit Go.Proofs.Ytknlgignjbghkaa.Pr Go.Proofs.YtknlgignjbghkaaW.PrintWords Go.Proofs.YtknlgignjbghkaaW.PrintLast Go.Proofs.YtknlgignjbghkaaW.PrintMore
set_option linter.unusedVariables false
set_option linter.unusedSimpArgs false
/-! Words for plain proofs over the printed functions: from some number of rounds on; loops that go up; ranges. -/
theorem w64 {x : Int} (h0 : -9223372036854775808 ≤ x) (h1 : x ≤ 9223372036854775807) : wrap64 x = x := by unfold wrap64; omega
theorem w64n {i n : Nat} (h : i < n) (hn : n ≤ 9223372036854775807) : wrap64 ((i : Int) + 1) = ((i + 1 : Nat) : Int) := by unfold wrap64; omega
theorem ev_now {α : Type} (r : α) : Ev (fun _ => some r) r := Ev.now r
theorem ev_eq {α : Type} {g : Option α} {r : α} (h : g = some r) : Ev (fun _ => g) r := ⟨0, fun _ _ => h⟩
theorem ev_pos {α : Type} {c : Prop} [Decidable c] {a b : Nat → Option α} {r : α} (h : c) (e : Ev a r) : Ev (fun k => if c then a k else b k) r := by
 obtain ⟨K, e⟩ := e
 exact ⟨K, fun k hk => (if_pos h).trans (e k hk)⟩
theorem ev_neg {α : Type} {c : Prop} [Decidable c] {a b : Nat → Option α} {r : α} (h : ¬ c) (e : Ev b r) : Ev (fun k => if c then a k else b k) r := by
 obtain ⟨K, e⟩ := e
 exact ⟨K, fun k hk => (if_neg h).trans (e k hk)⟩
theorem ev_ite {α : Type} {c : Prop} [Decidable c] {a b : Nat → Option α} {r : α} (h : c → Ev a r) (h' : ¬ c → Ev b r) : Ev (fun k => if c then a k else b k) r := by
 by_cases hc : c
 ·exact ev_pos hc (h hc)
 ·exact ev_neg hc (h' hc)
theorem ev_bind {α β : Type} {g : Nat → Option α} {f : Nat → α → Option β} {a : α} {r : β} (h : Ev g a) (k : Ev (fun n => f n a) r) : Ev (fun n => (g n).bind (f n)) r := Ev.bind h k
theorem ev_step {α : Type} {g f : Nat → Option α} {r : α} (h : ∀ k, g (k + 1) = f k) (k : Ev f r) : Ev g r := Ev.step h k
/-- What holds at the end and goes down a round, holds at each round. -/
theorem up_ind (n : Nat) (Q : Nat → Prop) (done : Q n) (step : ∀ i, i < n → Q (i + 1) → Q i) : ∀ i, i ≤ n → Q i := by
 have key : ∀ d i, i + d = n → Q i := by
  intro d
  induction d with
  | zero =>
   intro i h
   have e : i = n := by omega
   rw [e]
   exact done
  | succ d ih => intro i h; exact step i (by omega) (ih (i + 1) (by omega))
 exact fun i h => key (n - i) i (by omega)
theorem getD_lt {α : Type} {l : List α} {d : α} {i : Nat} (h : i < l.length) : l.getD ((i : Int).toNat) d = l[i] := by
 rw [Int.toNat_natCast, List.getD_eq_getElem?_getD, List.getElem?_eq_getElem h]
 rfl
/-- A loop that writes a row anew, element by element. -/
theorem ev_copy {α β : Type} (F : Nat → List β → Int → Option (List β)) (cv : α → β) (l : List α) (x : List β) (hx : x.length = l.length)
  (step : ∀ (i : Nat) (h : i < l.length) (y r : List β), y.length = l.length → Ev (fun k => F k (y.set i (cv l[i])) ((i + 1 : Nat) : Int)) r → Ev (fun k => F k y (i : Int)) r)
  (done : ∀ y : List β, y.length = l.length → Ev (fun k => F k y (l.length : Int)) y) : Ev (fun k => F k x 0) (l.map cv) := by
 refine up_ind l.length (fun i => ∀ y : List β, y.length = l.length → (∀ j, j < i → y[j]? = (l.map cv)[j]?) → Ev (fun k => F k y (i : Int)) (l.map cv)) ?_ ?_ 0 (by omega) x hx (fun j hj => by omega)
 ·intro y hy h
  have e : y = l.map cv := by
   apply List.ext_getElem?
   intro j
   by_cases hj : j < l.length
   ·exact h j hj
   ·rw [List.getElem?_eq_none (by omega), List.getElem?_eq_none (by simp; omega)]
  have d := done y hy
  rw [e] at d ⊢
  exact d
 ·intro i hi ih y hy h
  refine step i hi y _ hy (ih _ (by simp [hy]) (fun j hj => ?_))
  by_cases e : j = i
  ·subst e
   rw [List.getElem?_set_self (by omega), List.getElem?_map, List.getElem?_eq_getElem hi]
   rfl
  ·rw [List.getElem?_set_ne (Ne.symm e)]
   exact h j (by omega)
end Go.Proofs.Ytknlgignjbghkaa.U
namespace Go.Proofs.Ytknlgignjbghkaa.U
open Go.RowKit Go.Proofs.Ytknlgignjbghkaa.Pr Go.Proofs.YtknlgignjbghkaaW.PrintWords Go.Proofs.YtknlgignjbghkaaW.PrintLast Go.Proofs.YtknlgignjbghkaaW.PrintMore
set_option linter.unusedVariables false
set_option linter.unusedSimpArgs false
/-- A string's bytes. -/
abbrev Y (s : ByteArray) : List UInt8 := s.data.toList
theorem Y_eq {s : ByteArray} : s.toList = Y s := ByteArray.toList_eq s
theorem Y_len (s : ByteArray) : (Y s).length = s.size := Array.length_toList
theorem bt_at {s : ByteArray} {i : Nat} (h : i < s.size) : bt s (i : Int) = (((Y s)[i]'(by rw [Y_len]; exact h)).toNat : Int) := by
 unfold bt
 rw [dif_pos (show ((i : Int)).toNat < s.size from by omega)]
 rfl
theorem Y_drop {s : ByteArray} {i : Nat} (h : i < s.size) : (Y s).drop i = (Y s)[i]'(by rw [Y_len]; exact h) :: (Y s).drop (i + 1) := List.drop_eq_getElem_cons _
theorem Y_drop_end (s : ByteArray) : (Y s).drop s.size = [] := by rw [← Y_len, List.drop_length]
def digC (c : UInt8) : Bool := decide (48 ≤ (c.toNat : Int)) && decide ((c.toNat : Int) ≤ 57)
def letC (c : UInt8) : Bool := decide (97 ≤ (c.toNat : Int)) && decide ((c.toNat : Int) ≤ 122) || decide (65 ≤ (c.toNat : Int)) && decide ((c.toNat : Int) ≤ 90)
def wordC (c : UInt8) : Bool := letC c || digC c || decide ((c.toNat : Int) = 95)
def prC (c : UInt8) : Bool := decide (32 ≤ (c.toNat : Int)) && decide ((c.toNat : Int) ≤ 126)
/-- A name: at most 40 letters, digits and _, no digit first. -/
def nameL (l : List UInt8) : Bool := decide (1 ≤ l.length) && decide (l.length ≤ 40) && !(l.head?.any digC) && l.all wordC
def prL (n : Nat) (l : List UInt8) : Bool := decide (l.length ≤ n) && l.all prC
def valL (l : List UInt8) : Bool := decide (1 ≤ l.length) && prL 100 l
/-- How two rows of bytes stand to each other. -/
def cmpL : List UInt8 → List UInt8 → Int
 | [], [] => 0
 | [], _ :: _ => -1
 | _ :: _, [] => 1
 | a :: l, b :: m => if (a.toNat : Int) = (b.toNat : Int) then cmpL l m else if (a.toNat : Int) < (b.toNat : Int) then -1 else 1
end Go.Proofs.Ytknlgignjbghkaa.U
namespace Go.Proofs.Ytknlgignjbghkaa.U
open Go.RowKit Go.Proofs.Ytknlgignjbghkaa.Pr Go.Proofs.YtknlgignjbghkaaW.PrintWords Go.Proofs.YtknlgignjbghkaaW.PrintLast Go.Proofs.YtknlgignjbghkaaW.PrintMore
set_option linter.unusedVariables false
set_option linter.unusedSimpArgs false
def cn (a b : Int) : Int := if a < b then -1 else if a > b then 1 else 0
theorem cmpNum_spec (a b : Int) : spec_l2CmpNum.f a b = some (cn a b) := by
 unfold spec_l2CmpNum.f cn
 by_cases h : a < b
 ·rw [if_pos h, if_pos h]
 ·rw [if_neg h, if_neg h]
  by_cases h' : a > b
  ·rw [if_pos h', if_pos h']
  ·rw [if_neg h', if_neg h']
theorem less_cmp : ∀ a b : List UInt8, Op.bytesLess a b = decide (cmpL a b < 0)
 | [], [] => rfl
 | [], _ :: _ => rfl
 | _ :: _, [] => rfl
 | a :: l, b :: m => by
  unfold Op.bytesLess cmpL
  rw [less_cmp l m]
  by_cases e : (a.toNat : Int) = (b.toNat : Int)
  ·have : a = b := UInt8.toNat_inj.1 (by omega)
   subst this
   simp
  ·have hne : (a == b) = false := by
    rw [beq_eq_false_iff_ne]
    rintro rfl
    exact e rfl
   rw [if_neg e, hne, Bool.false_and, Bool.or_false]
   by_cases h : (a.toNat : Int) < (b.toNat : Int)
   ·rw [if_pos h]
    have : a < b := UInt8.lt_iff_toNat_lt.2 (by omega)
    simp [this]
   ·rw [if_neg h]
    have : ¬ a < b := fun h' => h (by have := UInt8.lt_iff_toNat_lt.1 h'; omega)
    simp [this]
theorem cmp_spec (s t : ByteArray) (hs : s.size ≤ 9223372036854775807) (ht : t.size ≤ 9223372036854775807) : Ev (fun k => spec_l2CmpText.f k s t) (cmpL (Y s) (Y t)) := by
 refine up_ind (min s.size t.size) (fun i => Ev (fun k => spec_l2CmpText.l0 k s t (i : Int)) (cmpL ((Y s).drop i) ((Y t).drop i))) ?_ ?_ 0 (by omega)
 ·generalize hm : min s.size t.size = m
  rcases Nat.lt_or_ge m s.size with h | h
  ·have e : m = t.size := by omega
   refine ev_step (fun _ => spec_l2CmpText.l0.eq_2 ..) (ev_pos (by omega) ?_)
   rw [decide_eq_false (by omega)]
   refine ev_step (fun _ => spec_l2CmpText.j1.eq_2 ..) (ev_neg (by decide) (ev_bind (ev_eq (cmpNum_spec _ _)) ?_))
   rw [Y_drop h, show List.drop m (Y t) = [] from by rw [e, Y_drop_end]]
   unfold cn cmpL
   rw [if_neg (by omega), if_pos (by omega)]
   exact ev_now _
  ·have e : m = s.size := by omega
   refine ev_step (fun _ => spec_l2CmpText.l0.eq_2 ..) (ev_neg (by omega) ?_)
   refine ev_step (fun _ => spec_l2CmpText.j1.eq_2 ..) (ev_neg (by decide) (ev_bind (ev_eq (cmpNum_spec _ _)) ?_))
   rw [e, Y_drop_end]
   by_cases h2 : s.size < t.size
   ·rw [Y_drop h2]
    unfold cn cmpL
    rw [if_pos (by omega)]
    exact ev_now _
   ·have e2 : s.size = t.size := by omega
    rw [e2, Y_drop_end]
    unfold cn cmpL
    rw [if_neg (by omega), if_neg (by omega)]
    exact ev_now _
 ·intro i h ih
  have h1 : i < s.size := by omega
  have h2 : i < t.size := by omega
  refine ev_step (fun _ => spec_l2CmpText.l0.eq_2 ..) (ev_pos (by omega) ?_)
  rw [decide_eq_true (by omega)]
  refine ev_step (fun _ => spec_l2CmpText.j1.eq_2 ..) (ev_pos rfl (ev_pos (by omega) (ev_pos (by omega) (ev_pos (by omega) ?_))))
  rw [bt_at h1, bt_at h2, Y_drop h1, Y_drop h2, w64n h1 hs]
  have a1 := ((Y s)[i]'(by rw [Y_len]; exact h1)).toNat_lt
  have a2 := ((Y t)[i]'(by rw [Y_len]; exact h2)).toNat_lt
  rw [w64 (x := (((Y s)[i]'(by rw [Y_len]; exact h1)).toNat : Int)) (by omega) (by omega), w64 (x := (((Y t)[i]'(by rw [Y_len]; exact h2)).toNat : Int)) (by omega) (by omega)]
  unfold cmpL
  refine ev_ite (fun h3 => ?_) (fun h3 => ?_)
  ·rw [if_pos h3]
   exact ih
  ·rw [if_neg h3]
   refine ev_bind (ev_eq (cmpNum_spec _ _)) ?_
   unfold cn
   by_cases h4 : (((Y s)[i]'(by rw [Y_len]; exact h1)).toNat : Int) < (((Y t)[i]'(by rw [Y_len]; exact h2)).toNat : Int)
   ·rw [if_pos h4, if_pos h4]
    exact ev_now _
   ·rw [if_neg h4, if_neg h4, if_pos (by omega)]
    exact ev_now _
end Go.Proofs.Ytknlgignjbghkaa.U
namespace Go.Proofs.Ytknlgignjbghkaa.U
open Go.RowKit Go.Proofs.Ytknlgignjbghkaa.Pr Go.Proofs.YtknlgignjbghkaaW.PrintWords Go.Proofs.YtknlgignjbghkaaW.PrintLast Go.Proofs.YtknlgignjbghkaaW.PrintMore
set_option linter.unusedVariables false
set_option linter.unusedSimpArgs false
theorem printed_spec (s : ByteArray) (hs : s.size ≤ 9223372036854775807) : Ev (fun k => spec_l2Printed.f k s) ((Y s).all prC) := by
 refine up_ind s.size (fun i => Ev (fun k => spec_l2Printed.l0 k s (i : Int)) (((Y s).drop i).all prC)) ?_ ?_ 0 (by omega)
 ·rw [Y_drop_end]
  exact ev_step (fun _ => spec_l2Printed.l0.eq_2 ..) (ev_neg (by omega) (ev_now _))
 ·intro i h ih
  refine ev_step (fun _ => spec_l2Printed.l0.eq_2 ..) (ev_pos (by omega) (ev_pos (by omega) ?_))
  rw [bt_at h, Y_drop h, List.all_cons, w64n h hs]
  unfold prC
  refine ev_ite (fun h1 => ?_) (fun h1 => ev_ite (fun h2 => ?_) (fun h2 => ?_))
  ·rw [decide_eq_false (by omega)]
   exact ev_now _
  ·rw [decide_eq_false (show ¬ _ ≤ (126 : Int) from by omega), Bool.and_false, Bool.false_and]
   exact ev_now _
  ·rw [decide_eq_true (by omega), decide_eq_true (by omega)]
   exact ih
theorem printed_impl (s : ByteArray) (hs : s.size ≤ 9223372036854775807) (n : Nat) : Ev (fun k => impl_printed.f k s (n : Int)) (prL n (Y s)) := by
 unfold impl_printed.f prL
 rw [Y_len]
 refine ev_ite (fun h => ?_) (fun h => ?_)
 ·rw [decide_eq_false (by omega)]
  exact ev_now _
 ·rw [decide_eq_true (by omega), Bool.true_and]
  refine up_ind s.size (fun i => Ev (fun k => impl_printed.l0 k s (s.size : Int) (i : Int)) (((Y s).drop i).all prC)) ?_ ?_ 0 (by omega)
  ·rw [Y_drop_end]
   exact ev_step (fun _ => impl_printed.l0.eq_2 ..) (ev_neg (by omega) (ev_now _))
  ·intro i h ih
   refine ev_step (fun _ => impl_printed.l0.eq_2 ..) (ev_pos (by omega) (ev_pos (by omega) (ev_pos (by omega) ?_)))
   rw [bt_at h, Y_drop h, List.all_cons, w64n h hs]
   unfold prC
   refine ev_ite (fun h1 => ?_) (fun h1 => ev_ite (fun h2 => ?_) (fun h2 => ?_))
   ·rw [decide_eq_false (by omega)]
    exact ev_now _
   ·rw [decide_eq_false (show ¬ _ ≤ (126 : Int) from by omega), Bool.and_false, Bool.false_and]
    exact ev_now _
   ·rw [decide_eq_true (by omega), decide_eq_true (by omega)]
    exact ih
end Go.Proofs.Ytknlgignjbghkaa.U
namespace Go.Proofs.Ytknlgignjbghkaa.U
open Go.RowKit Go.Proofs.Ytknlgignjbghkaa.Pr Go.Proofs.YtknlgignjbghkaaW.PrintWords Go.Proofs.YtknlgignjbghkaaW.PrintLast Go.Proofs.YtknlgignjbghkaaW.PrintMore
set_option linter.unusedVariables false
set_option linter.unusedSimpArgs false
theorem digit_impl (c : UInt8) : impl_digitByte.f (c.toNat : Int) = some (digC c) := by
 unfold impl_digitByte.f digC
 by_cases h : (c.toNat : Int) ≥ 48
 ·rw [if_pos h, decide_eq_true (show 48 ≤ (c.toNat : Int) from h), Bool.true_and]
 ·rw [if_neg h, decide_eq_false (show ¬ 48 ≤ (c.toNat : Int) from h), Bool.false_and]
theorem digit_spec (c : UInt8) : spec_l2Digit.f (c.toNat : Int) = some (digC c) := by
 unfold spec_l2Digit.f digC
 by_cases h : (c.toNat : Int) ≥ 48
 ·rw [if_pos h, decide_eq_true (show 48 ≤ (c.toNat : Int) from h), Bool.true_and]
 ·rw [if_neg h, decide_eq_false (show ¬ 48 ≤ (c.toNat : Int) from h), Bool.false_and]
theorem letter_impl (c : UInt8) : impl_letterByte.f (c.toNat : Int) = some (letC c) := by
 unfold impl_letterByte.f letC
 by_cases h : (c.toNat : Int) ≥ 97 <;> by_cases h1 : (c.toNat : Int) ≤ 122 <;> by_cases h2 : (c.toNat : Int) ≥ 65 <;> by_cases h3 : (c.toNat : Int) ≤ 90 <;> simp [h, h1, h2, h3] <;> omega
theorem letter_spec (c : UInt8) : spec_l2Letter.f (c.toNat : Int) = some (letC c) := by
 unfold spec_l2Letter.f letC
 by_cases h : (c.toNat : Int) ≥ 97 <;> by_cases h1 : (c.toNat : Int) ≤ 122 <;> by_cases h2 : (c.toNat : Int) ≥ 65 <;> by_cases h3 : (c.toNat : Int) ≤ 90 <;> simp [h, h1, h2, h3] <;> omega
theorem word_impl (c : UInt8) : impl_wordByte.f (c.toNat : Int) = some (wordC c) := by
 unfold impl_wordByte.f wordC
 rw [letter_impl, digit_impl]
 cases letC c <;> cases digC c <;> simp <;> rfl
theorem name_loop_impl (s : ByteArray) (hs : s.size ≤ 9223372036854775807) : Ev (fun k => impl_isName.l0 k s (s.size : Int) 0) ((Y s).all wordC) := by
 refine up_ind s.size (fun i => Ev (fun k => impl_isName.l0 k s (s.size : Int) (i : Int)) (((Y s).drop i).all wordC)) ?_ ?_ 0 (by omega)
 ·rw [Y_drop_end]
  exact ev_step (fun _ => impl_isName.l0.eq_2 ..) (ev_neg (by omega) (ev_now _))
 ·intro i h ih
  refine ev_step (fun _ => impl_isName.l0.eq_2 ..) (ev_pos (by omega) (ev_pos (by omega) (ev_pos (by omega) ?_)))
  rw [bt_at h, Y_drop h, List.all_cons, w64n h hs]
  refine ev_bind (ev_eq (word_impl _)) (ev_ite (fun h1 => ?_) (fun h1 => ?_))
  ·rw [h1]
   exact ih
  ·rw [Bool.eq_false_iff.2 h1]
   exact ev_now _
theorem name_loop_spec (s : ByteArray) (hs : s.size ≤ 9223372036854775807) : Ev (fun k => spec_l2Name.l0 k s 0) ((Y s).all wordC) := by
 refine up_ind s.size (fun i => Ev (fun k => spec_l2Name.l0 k s (i : Int)) (((Y s).drop i).all wordC)) ?_ ?_ 0 (by omega)
 ·rw [Y_drop_end]
  exact ev_step (fun _ => spec_l2Name.l0.eq_2 ..) (ev_neg (by omega) (ev_now _))
 ·intro i h ih
  refine ev_step (fun _ => spec_l2Name.l0.eq_2 ..) (ev_pos (by omega) (ev_pos (by omega) ?_))
  rw [bt_at h, Y_drop h, List.all_cons, w64n h hs]
  unfold wordC
  refine ev_bind (ev_eq (letter_spec _)) (ev_ite (fun h1 => ?_) (fun h1 => ev_bind (ev_eq (digit_spec _)) (ev_ite (fun h2 => ?_) (fun h2 => ev_ite (fun h3 => ?_) (fun h3 => ?_)))))
  ·rw [h1]
   exact ih
  ·rw [h2, Bool.or_true]
   exact ih
  ·rw [decide_eq_true h3, Bool.or_true]
   exact ih
  ·rw [Bool.eq_false_iff.2 h1, Bool.eq_false_iff.2 h2, decide_eq_false h3]
   exact ev_now _
theorem name_impl (s : ByteArray) (hs : s.size ≤ 9223372036854775807) : Ev (fun k => impl_isName.f k s) (nameL (Y s)) := by
 unfold impl_isName.f nameL
 rw [Y_eq]
 refine ev_ite (fun h => ?_) (fun h => ?_)
 ·rw [h]
  exact ev_step (fun _ => impl_isName.j0.eq_2 ..) (ev_pos rfl (ev_now _))
 ·have hl : 1 ≤ (Y s).length := by
   cases e : Y s with
   | nil => exact absurd e h
   | cons a l => simp
  rw [decide_eq_true hl, Y_len, Bool.true_and]
  rw [Y_len] at hl
  refine ev_ite (fun h1 => ?_) (fun h1 => ev_pos (by omega) ?_)
  ·rw [decide_eq_false (by omega)]
   exact ev_step (fun _ => impl_isName.j0.eq_2 ..) (ev_pos rfl (ev_now _))
  ·rw [decide_eq_true (by omega), Bool.true_and]
   have e0 := bt_at (s := s) (i := 0) (by omega)
   have eh : (Y s).head? = some ((Y s)[0]'(by rw [Y_len]; omega)) := by rw [List.head?_eq_getElem?, List.getElem?_eq_getElem]
   rw [show bt s 0 = bt s ((0 : Nat) : Int) from rfl, e0, eh]
   refine ev_bind (ev_eq (digit_impl _)) (ev_step (fun _ => impl_isName.j0.eq_2 ..) (ev_ite (fun h2 => ?_) (fun h2 => ?_)))
   ·rw [Option.any_some, h2]
    exact ev_now _
   ·rw [Option.any_some, Bool.eq_false_iff.2 h2]
    exact name_loop_impl s hs
theorem name_spec (s : ByteArray) (hs : s.size ≤ 9223372036854775807) : Ev (fun k => spec_l2Name.f k s) (nameL (Y s)) := by
 unfold spec_l2Name.f nameL
 rw [Y_len]
 refine ev_ite (fun h => ?_) (fun h => ?_)
 ·rw [decide_eq_false (by omega)]
  exact ev_step (fun _ => spec_l2Name.j0.eq_2 ..) (ev_pos rfl (ev_now _))
 ·rw [decide_eq_true (by omega), Bool.true_and]
  refine ev_ite (fun h1 => ?_) (fun h1 => ev_pos (by omega) ?_)
  ·rw [decide_eq_false (by omega)]
   exact ev_step (fun _ => spec_l2Name.j0.eq_2 ..) (ev_pos rfl (ev_now _))
  ·rw [decide_eq_true (by omega), Bool.true_and]
   have e0 := bt_at (s := s) (i := 0) (by omega)
   have eh : (Y s).head? = some ((Y s)[0]'(by rw [Y_len]; omega)) := by rw [List.head?_eq_getElem?, List.getElem?_eq_getElem]
   rw [show bt s 0 = bt s ((0 : Nat) : Int) from rfl, e0, eh]
   refine ev_bind (ev_eq (digit_spec _)) (ev_step (fun _ => spec_l2Name.j0.eq_2 ..) (ev_ite (fun h2 => ?_) (fun h2 => ?_)))
   ·rw [Option.any_some, h2]
    exact ev_now _
   ·rw [Option.any_some, Bool.eq_false_iff.2 h2]
    exact name_loop_spec s hs
end Go.Proofs.Ytknlgignjbghkaa.U
namespace Go.Proofs.Ytknlgignjbghkaa.U
open Go.RowKit Go.Proofs.Ytknlgignjbghkaa.Pr Go.Proofs.YtknlgignjbghkaaW.PrintWords Go.Proofs.YtknlgignjbghkaaW.PrintLast Go.Proofs.YtknlgignjbghkaaW.PrintMore
set_option linter.unusedVariables false
set_option linter.unusedSimpArgs false
theorem value_spec (s : ByteArray) (hs : s.size ≤ 9223372036854775807) : Ev (fun k => spec_l2Value.f k s) (valL (Y s)) := by
 unfold spec_l2Value.f valL prL
 rw [Y_len]
 refine ev_ite (fun h => ev_ite (fun h1 => ?_) (fun h1 => ?_)) (fun h => ?_)
 ·rw [decide_eq_true (by omega), decide_eq_true (by omega), Bool.true_and, Bool.true_and]
  exact ev_bind (printed_spec s hs) (ev_now _)
 ·rw [decide_eq_false (show ¬ s.size ≤ 100 from by omega), Bool.false_and, Bool.and_false]
  exact ev_now _
 ·rw [decide_eq_false (by omega), Bool.false_and]
  exact ev_now _
theorem value_impl (s : ByteArray) (hs : s.size ≤ 9223372036854775807) : Ev (fun k => impl_isValue.f k s) (valL (Y s)) := by
 unfold impl_isValue.f valL
 rw [Y_eq, ]
 refine ev_ite (fun h => ?_) (fun h => ?_)
 ·rw [h]
  exact ev_now _
 ·have : 1 ≤ (Y s).length := by
   cases e : Y s with
   | nil => exact absurd e h
   | cons a l => simp
  rw [decide_eq_true this, Bool.true_and]
  exact ev_bind (printed_impl s hs 100) (ev_now _)
end Go.Proofs.Ytknlgignjbghkaa.U
namespace Go.Proofs.Ytknlgignjbghkaa.U
open Go.RowKit Go.Proofs.Ytknlgignjbghkaa.Pr Go.Proofs.YtknlgignjbghkaaW.PrintWords Go.Proofs.YtknlgignjbghkaaW.PrintLast Go.Proofs.YtknlgignjbghkaaW.PrintMore
set_option linter.unusedVariables false
set_option linter.unusedSimpArgs false
def before (p : Option (List UInt8)) (l : List UInt8) : Bool := match p with
 | none => true
 | some q => decide (cmpL q l < 0)
/-- Labels that are good, each name behind the one ahead. -/
def riseL (p : Option (List UInt8)) : List S108 → Bool
 | [] => true
 | x :: xs => nameL (Y x.f0) && valL (Y x.f1) && before p (Y x.f0) && riseL (some (Y x.f0)) xs
def goodL (l : List S108) : Bool := decide (l.length ≤ 20) && riseL none l
def ptL (l : List S108) (i : Nat) : Option (List UInt8) := if i = 0 then none else some (Y (rd_T108 l ((i - 1 : Nat) : Int)).f0)
/-- Texts that fit. -/
def fitL (l : List S108) : Prop := l.length ≤ 9223372036854775807 ∧ ∀ x ∈ l, x.f0.size ≤ 9223372036854775807 ∧ x.f1.size ≤ 9223372036854775807
theorem goodLabels_impl_l (l : List S108) (hf : fitL l) : Ev (fun k => impl_GoodLabels.l0 k l l (l.length : Int) 0) (riseL none l) := by
 obtain ⟨hl, hw⟩ := hf
 have hrd : ∀ (i : Nat) (h : i < l.length), rd_T108 l (i : Int) = l[i] := fun i h => getD_lt h
 refine up_ind l.length (fun i => Ev (fun k => impl_GoodLabels.l0 k l l (l.length : Int) (i : Int)) (riseL (ptL l i) (l.drop i))) ?_ ?_ 0 (by omega)
 ·rw [List.drop_length]
  exact ev_step (fun _ => impl_GoodLabels.l0.eq_2 ..) (ev_neg (by omega) (ev_now _))
 ·intro i h ih
  have hp : ptL l (i + 1) = some (Y l[i].f0) := by unfold ptL; rw [if_neg (by omega), Nat.add_sub_cancel, hrd i h]
  rw [hp] at ih
  obtain ⟨w1, w2⟩ := hw l[i] (List.getElem_mem h)
  have wi : wrap64 ((i : Int) + 1) = ((i + 1 : Nat) : Int) := w64n h hl
  refine ev_step (fun _ => impl_GoodLabels.l0.eq_2 ..) (ev_pos (by omega) (ev_pos (by omega) (ev_pos (by omega) ?_)))
  rw [hrd i h, List.drop_eq_getElem_cons h]
  simp only [riseL]
  refine ev_bind (name_impl _ w1) (ev_ite (fun h1 => ev_bind (value_impl _ w2) (ev_ite (fun h2 => ?_) (fun h2 => ?_))) (fun h1 => ?_))
  ·rw [h1, h2, Bool.true_and, Bool.true_and]
   by_cases hi : i = 0
   ·subst hi
    rw [wi]
    exact ev_neg (by omega) ih
   ·have wm : wrap64 ((i : Int) - 1) = ((i - 1 : Nat) : Int) := by rw [w64 (by omega) (by omega)]; omega
    have hq : ptL l i = some (Y l[i - 1].f0) := by unfold ptL; rw [if_neg hi, hrd (i - 1) (by omega)]
    obtain ⟨w3, _⟩ := hw l[i - 1] (List.getElem_mem (by omega))
    rw [wm, hrd (i - 1) (by omega), hq, wi]
    refine ev_pos (by omega) (ev_pos (by omega) (ev_pos (by omega) ?_))
    simp only [before]
    rw [Y_eq, Y_eq, less_cmp]
    refine ev_ite (fun h3 => ?_) (fun h3 => ?_)
    ·rw [h3, Bool.true_and]
     exact ih
    ·rw [Bool.eq_false_iff.2 h3, Bool.false_and]
     exact ev_now _
  ·rw [h1, Bool.eq_false_iff.2 h2]
   exact ev_now _
  ·rw [Bool.eq_false_iff.2 h1]
   exact ev_now _
theorem goodLabels_impl (l : List S108) (hf : fitL l) : Ev (fun k => impl_GoodLabels.f k l) (goodL l) := by
 unfold impl_GoodLabels.f goodL
 refine ev_ite (fun h => ?_) (fun h => ?_)
 ·rw [decide_eq_false (by omega)]
  exact ev_now _
 ·rw [decide_eq_true (by omega), Bool.true_and]
  exact goodLabels_impl_l l hf
theorem goodLabels_spec_l (l : List S108) (hf : fitL l) : Ev (fun k => spec_GoodLabels.l0 k l l (l.length : Int) 0) (riseL none l) := by
 obtain ⟨hl, hw⟩ := hf
 have hrd : ∀ (i : Nat) (h : i < l.length), rd_T108 l (i : Int) = l[i] := fun i h => getD_lt h
 refine up_ind l.length (fun i => Ev (fun k => spec_GoodLabels.l0 k l l (l.length : Int) (i : Int)) (riseL (ptL l i) (l.drop i))) ?_ ?_ 0 (by omega)
 ·rw [List.drop_length]
  exact ev_step (fun _ => spec_GoodLabels.l0.eq_2 ..) (ev_neg (by omega) (ev_now _))
 ·intro i h ih
  have hp : ptL l (i + 1) = some (Y l[i].f0) := by unfold ptL; rw [if_neg (by omega), Nat.add_sub_cancel, hrd i h]
  rw [hp] at ih
  obtain ⟨w1, w2⟩ := hw l[i] (List.getElem_mem h)
  have wi : wrap64 ((i : Int) + 1) = ((i + 1 : Nat) : Int) := w64n h hl
  refine ev_step (fun _ => spec_GoodLabels.l0.eq_2 ..) (ev_pos (by omega) (ev_pos (by omega) (ev_pos (by omega) ?_)))
  rw [hrd i h, List.drop_eq_getElem_cons h]
  simp only [riseL]
  refine ev_bind (name_spec _ w1) (ev_ite (fun h1 => ev_bind (value_spec _ w2) (ev_ite (fun h2 => ?_) (fun h2 => ?_))) (fun h1 => ?_))
  ·rw [h1, h2, Bool.true_and, Bool.true_and]
   by_cases hi : i = 0
   ·subst hi
    rw [wi]
    exact ev_neg (by omega) ih
   ·have wm : wrap64 ((i : Int) - 1) = ((i - 1 : Nat) : Int) := by rw [w64 (by omega) (by omega)]; omega
    have hq : ptL l i = some (Y l[i - 1].f0) := by unfold ptL; rw [if_neg hi, hrd (i - 1) (by omega)]
    obtain ⟨w3, _⟩ := hw l[i - 1] (List.getElem_mem (by omega))
    rw [wm, hrd (i - 1) (by omega), hq, wi]
    refine ev_pos (by omega) (ev_pos (by omega) (ev_pos (by omega) ?_))
    simp only [before]
    refine ev_bind (cmp_spec _ _ w3 w1) (ev_ite (fun h3 => ?_) (fun h3 => ?_))
    ·rw [decide_eq_false (by omega), Bool.false_and]
     exact ev_now _
    ·rw [decide_eq_true (by omega), Bool.true_and]
     exact ih
  ·rw [h1, Bool.eq_false_iff.2 h2]
   exact ev_now _
  ·rw [Bool.eq_false_iff.2 h1]
   exact ev_now _
theorem goodLabels_spec (l : List S108) (hf : fitL l) : Ev (fun k => spec_GoodLabels.f k l) (goodL l) := by
 unfold spec_GoodLabels.f goodL
 refine ev_ite (fun h => ?_) (fun h => ?_)
 ·rw [decide_eq_false (by omega)]
  exact ev_now _
 ·rw [decide_eq_true (by omega), Bool.true_and]
  exact goodLabels_spec_l l hf
end Go.Proofs.Ytknlgignjbghkaa.U
namespace Go.Proofs.Ytknlgignjbghkaa.U
open Go.RowKit Go.Proofs.Ytknlgignjbghkaa.Pr Go.Proofs.YtknlgignjbghkaaW.PrintWords Go.Proofs.YtknlgignjbghkaaW.PrintLast Go.Proofs.YtknlgignjbghkaaW.PrintMore
set_option linter.unusedVariables false
set_option linter.unusedSimpArgs false
theorem cmpL_neg : ∀ a b : List UInt8, cmpL b a = - cmpL a b
 | [], [] => rfl
 | [], _ :: _ => rfl
 | _ :: _, [] => rfl
 | a :: l, b :: m => by
  simp only [cmpL]
  by_cases e : (a.toNat : Int) = (b.toNat : Int)
  ·rw [if_pos e, if_pos e.symm]
   exact cmpL_neg l m
  ·rw [if_neg e, if_neg (fun h => e h.symm)]
   by_cases h : (a.toNat : Int) < (b.toNat : Int)
   ·rw [if_pos h, if_neg (by omega)]
    rfl
   ·rw [if_neg h, if_pos (by omega)]
theorem cmpL_cases : ∀ a b : List UInt8, cmpL a b = -1 ∨ cmpL a b = 0 ∨ cmpL a b = 1
 | [], [] => .inr (.inl rfl)
 | [], _ :: _ => .inl rfl
 | _ :: _, [] => .inr (.inr rfl)
 | a :: l, b :: m => by
  simp only [cmpL]
  by_cases e : (a.toNat : Int) = (b.toNat : Int)
  ·rw [if_pos e]
   exact cmpL_cases l m
  ·rw [if_neg e]
   by_cases h : (a.toNat : Int) < (b.toNat : Int)
   ·rw [if_pos h]
    exact .inl rfl
   ·rw [if_neg h]
    exact .inr (.inr rfl)
/-- How two lists of labels stand to each other. -/
def cmpLL : List S108 → List S108 → Int
 | [], [] => 0
 | [], _ :: _ => -1
 | _ :: _, [] => 1
 | x :: xs, y :: ys => if cmpL (Y x.f0) (Y y.f0) = 0 then (if cmpL (Y x.f1) (Y y.f1) = 0 then cmpLL xs ys else cmpL (Y x.f1) (Y y.f1)) else cmpL (Y x.f0) (Y y.f0)
theorem cmpLL_spec (l m : List S108) (hl : fitL l) (hm : fitL m) : Ev (fun k => spec_l2Cmp.f k l m) (cmpLL l m) := by
 have hrd : ∀ (l : List S108) (i : Nat) (h : i < l.length), rd_T108 l (i : Int) = l[i] := fun l i h => getD_lt h
 refine up_ind (min l.length m.length) (fun i => Ev (fun k => spec_l2Cmp.l0 k l m (i : Int)) (cmpLL (l.drop i) (m.drop i))) ?_ ?_ 0 (by omega)
 ·generalize hq : min l.length m.length = q
  rcases Nat.lt_or_ge q l.length with h | h
  ·have e : q = m.length := by omega
   refine ev_step (fun _ => spec_l2Cmp.l0.eq_2 ..) (ev_pos (by omega) ?_)
   rw [decide_eq_false (by omega)]
   refine ev_step (fun _ => spec_l2Cmp.j1.eq_2 ..) (ev_neg (by decide) (ev_bind (ev_eq (cmpNum_spec _ _)) ?_))
   rw [List.drop_eq_getElem_cons h, show m.drop q = [] from by rw [e, List.drop_length]]
   unfold cn cmpLL
   rw [if_neg (by omega), if_pos (by omega)]
   exact ev_now _
  ·have e : q = l.length := by omega
   refine ev_step (fun _ => spec_l2Cmp.l0.eq_2 ..) (ev_neg (by omega) ?_)
   refine ev_step (fun _ => spec_l2Cmp.j1.eq_2 ..) (ev_neg (by decide) (ev_bind (ev_eq (cmpNum_spec _ _)) ?_))
   rw [e, List.drop_length]
   by_cases h2 : l.length < m.length
   ·rw [List.drop_eq_getElem_cons h2]
    unfold cn cmpLL
    rw [if_pos (by omega)]
    exact ev_now _
   ·have e2 : l.length = m.length := by omega
    rw [e2, List.drop_length]
    unfold cn cmpLL
    rw [if_neg (by omega), if_neg (by omega)]
    exact ev_now _
 ·intro i h ih
  have h1 : i < l.length := by omega
  have h2 : i < m.length := by omega
  obtain ⟨a1, a2⟩ := hl.2 l[i] (List.getElem_mem h1)
  obtain ⟨b1, b2⟩ := hm.2 m[i] (List.getElem_mem h2)
  refine ev_step (fun _ => spec_l2Cmp.l0.eq_2 ..) (ev_pos (by omega) ?_)
  rw [decide_eq_true (by omega)]
  refine ev_step (fun _ => spec_l2Cmp.j1.eq_2 ..) (ev_pos rfl (ev_pos (by omega) (ev_pos (by omega) (ev_pos (by omega) ?_))))
  rw [hrd l i h1, hrd m i h2, List.drop_eq_getElem_cons h1, List.drop_eq_getElem_cons h2, w64n h1 hl.1]
  simp only [cmpLL]
  refine ev_bind (cmp_spec _ _ a1 b1) (ev_ite (fun h3 => ev_bind (cmp_spec _ _ a2 b2) (ev_ite (fun h4 => ?_) (fun h4 => ?_))) (fun h3 => ?_))
  ·rw [if_pos h3, if_pos h4]
   exact ih
  ·rw [if_pos h3, if_neg h4]
   exact ev_now _
  ·rw [if_neg h3]
   exact ev_now _
theorem compare_str (a b : ByteArray) : cmp_Compare_string.f a b = some (cmpL (Y a) (Y b)) := by
 unfold cmp_Compare_string.f cmp_isNaN_string.f
 simp only [bne_self_eq_false, Option.bind_some]
 rw [if_neg (by decide), if_neg (by decide), Y_eq, Y_eq, less_cmp, less_cmp, cmpL_neg (Y a) (Y b)]
 rcases cmpL_cases (Y a) (Y b) with h | h | h <;> rw [h] <;> rfl
theorem compare_int (a b : Int) : cmp_Compare_int.f a b = some (cn a b) := by
 unfold cmp_Compare_int.f cmp_isNaN_int.f cn
 simp only [bne_self_eq_false, Option.bind_some]
 rw [if_neg (by decide), if_neg (by decide)]
 by_cases h : a < b
 ·rw [if_pos h, if_pos h]
 ·rw [if_neg h, if_neg h]
  by_cases h' : a > b
  ·rw [if_pos h', if_pos h']
  ·rw [if_neg h', if_neg h']
theorem or_two (a b : Int) : Ev (fun k => cmp_Or_int.f k [a, b]) (if a = 0 then b else a) := by
 unfold cmp_Or_int.f
 refine ev_step (fun _ => cmp_Or_int.l0.eq_2 ..) (ev_pos (by simp) (ev_pos (by simp) (ev_pos (by simp) ?_)))
 rw [show rd [a, b] 0 = a from rfl]
 refine ev_ite (fun h => ?_) (fun h => ?_)
 ·rw [if_pos h, show wrap64 (0 + 1) = 1 from (w64 (by omega) (by omega)).trans (by omega)]
  refine ev_step (fun _ => cmp_Or_int.l0.eq_2 ..) (ev_pos (by simp) (ev_pos (by simp) (ev_pos (by simp) ?_)))
  rw [show rd [a, b] 1 = b from rfl]
  refine ev_ite (fun h => ?_) (fun h => ev_now _)
  rw [h, show wrap64 (1 + 1) = 2 from (w64 (by omega) (by omega)).trans (by omega)]
  exact ev_step (fun _ => cmp_Or_int.l0.eq_2 ..) (ev_neg (by simp) (ev_now _))
 ·rw [if_neg h]
  exact ev_now _
theorem cmpLL_impl (l m : List S108) (hl : fitL l) (hm : fitL m) : Ev (fun k => impl_compare.f k l m) (cmpLL l m) := by
 have hrd : ∀ (l : List S108) (i : Nat) (h : i < l.length), rd_T108 l (i : Int) = l[i] := fun l i h => getD_lt h
 unfold impl_compare.f
 rw [show mn (l.length : Int) (m.length : Int) = ((min l.length m.length : Nat) : Int) from by unfold mn; split <;> omega]
 refine up_ind (min l.length m.length) (fun i => Ev (fun k => impl_compare.l0 k l m ((min l.length m.length : Nat) : Int) (i : Int)) (cmpLL (l.drop i) (m.drop i))) ?_ ?_ 0 (by omega)
 ·generalize hq : min l.length m.length = q
  refine ev_step (fun _ => impl_compare.l0.eq_2 ..) (ev_neg (by omega) (ev_bind (ev_eq (compare_int _ _)) ?_))
  rcases Nat.lt_or_ge q l.length with h | h
  ·have e : q = m.length := by omega
   rw [List.drop_eq_getElem_cons h, show m.drop q = [] from by rw [e, List.drop_length]]
   unfold cn cmpLL
   rw [if_neg (by omega), if_pos (by omega)]
   exact ev_now _
  ·have e : q = l.length := by omega
   rw [e, List.drop_length]
   by_cases h2 : l.length < m.length
   ·rw [List.drop_eq_getElem_cons h2]
    unfold cn cmpLL
    rw [if_pos (by omega)]
    exact ev_now _
   ·have e2 : l.length = m.length := by omega
    rw [e2, List.drop_length]
    unfold cn cmpLL
    rw [if_neg (by omega), if_neg (by omega)]
    exact ev_now _
 ·intro i h ih
  have h1 : i < l.length := by omega
  have h2 : i < m.length := by omega
  have hl1 := hl.1
  refine ev_step (fun _ => impl_compare.l0.eq_2 ..) (ev_pos (by omega) (ev_pos (by omega) (ev_pos (by omega) (ev_pos (by omega) ?_))))
  rw [hrd l i h1, hrd m i h2, List.drop_eq_getElem_cons h1, List.drop_eq_getElem_cons h2, w64n h1 hl1]
  refine ev_bind (ev_eq (compare_str _ _)) (ev_bind (ev_eq (compare_str _ _)) (ev_bind (or_two _ _) ?_))
  simp only [cmpLL]
  by_cases h3 : cmpL (Y l[i].f0) (Y m[i].f0) = 0
  ·rw [if_pos h3, if_pos h3]
   refine ev_ite (fun h4 => ?_) (fun h4 => ?_)
   ·rw [if_pos h4]
    exact ih
   ·rw [if_neg h4]
    exact ev_now _
  ·rw [if_neg h3, if_neg h3]
   exact ev_neg h3 (ev_now _)
end Go.Proofs.Ytknlgignjbghkaa.U
namespace Go.Proofs.Ytknlgignjbghkaa.U
open Go.RowKit Go.Proofs.Ytknlgignjbghkaa.Pr Go.Proofs.YtknlgignjbghkaaW.PrintWords Go.Proofs.YtknlgignjbghkaaW.PrintLast Go.Proofs.YtknlgignjbghkaaW.PrintMore
set_option linter.unusedVariables false
set_option linter.unusedSimpArgs false
/-- The value under a name. -/
def ofL (n : ByteArray) : List S108 → ByteArray
 | [] => ⟨#[]⟩
 | x :: xs => if Y x.f0 = Y n then x.f1 else ofL n xs
end Go.Proofs.Ytknlgignjbghkaa.U
namespace Go.Proofs.Ytknlgignjbghkaa.U
open Go.RowKit Go.Proofs.Ytknlgignjbghkaa.Pr Go.Proofs.YtknlgignjbghkaaW.PrintWords Go.Proofs.YtknlgignjbghkaaW.PrintLast Go.Proofs.YtknlgignjbghkaaW.PrintMore
set_option linter.unusedVariables false
set_option linter.unusedSimpArgs false
theorem of_impl (l : List S108) (hl : l.length ≤ 9223372036854775807) (n : ByteArray) : Ev (fun k => impl_valueOf.f k l n) (ofL n l) := by
 have hrd : ∀ (i : Nat) (h : i < l.length), rd_T108 l (i : Int) = l[i] := fun i h => getD_lt h
 refine up_ind l.length (fun i => Ev (fun k => impl_valueOf.l0 k n l (l.length : Int) (i : Int)) (ofL n (l.drop i))) ?_ ?_ 0 (by omega)
 ·rw [List.drop_length]
  exact ev_step (fun _ => impl_valueOf.l0.eq_2 ..) (ev_neg (by omega) (ev_now _))
 ·intro i h ih
  refine ev_step (fun _ => impl_valueOf.l0.eq_2 ..) (ev_pos (by omega) (ev_pos (by omega) (ev_pos (by omega) ?_)))
  rw [hrd i h, List.drop_eq_getElem_cons h, w64n h hl, Y_eq, Y_eq]
  simp only [ofL]
  refine ev_ite (fun h1 => ?_) (fun h1 => ?_)
  ·rw [if_pos h1]
   exact ev_now _
  ·rw [if_neg h1]
   exact ih
end Go.Proofs.Ytknlgignjbghkaa.U
namespace Go.Proofs.Ytknlgignjbghkaa.U
open Go.RowKit Go.Proofs.Ytknlgignjbghkaa.Pr Go.Proofs.YtknlgignjbghkaaW.PrintWords Go.Proofs.YtknlgignjbghkaaW.PrintLast Go.Proofs.YtknlgignjbghkaaW.PrintMore
set_option linter.unusedVariables false
set_option linter.unusedSimpArgs false
theorem of_spec (l : List S108) (hl : l.length ≤ 9223372036854775807) (n : ByteArray) : Ev (fun k => spec_l2Of.f k l n) (ofL n l) := by
 have hrd : ∀ (i : Nat) (h : i < l.length), rd_T108 l (i : Int) = l[i] := fun i h => getD_lt h
 refine up_ind l.length (fun i => Ev (fun k => spec_l2Of.l0 k n l (l.length : Int) (i : Int)) (ofL n (l.drop i))) ?_ ?_ 0 (by omega)
 ·rw [List.drop_length]
  exact ev_step (fun _ => spec_l2Of.l0.eq_2 ..) (ev_neg (by omega) (ev_now _))
 ·intro i h ih
  refine ev_step (fun _ => spec_l2Of.l0.eq_2 ..) (ev_pos (by omega) (ev_pos (by omega) (ev_pos (by omega) ?_)))
  rw [hrd i h, List.drop_eq_getElem_cons h, w64n h hl, Y_eq, Y_eq]
  simp only [ofL]
  refine ev_ite (fun h1 => ?_) (fun h1 => ?_)
  ·rw [if_pos h1]
   exact ev_now _
  ·rw [if_neg h1]
   exact ih
end Go.Proofs.Ytknlgignjbghkaa.U
namespace Go.Proofs.Ytknlgignjbghkaa.U
open Go.RowKit Go.Proofs.Ytknlgignjbghkaa.Pr Go.Proofs.YtknlgignjbghkaaW.PrintWords Go.Proofs.YtknlgignjbghkaaW.PrintLast Go.Proofs.YtknlgignjbghkaaW.PrintMore
set_option linter.unusedVariables false
set_option linter.unusedSimpArgs false
/-- Times that rise, from lo on, each one in its range. -/
def incS (lo : Int) : List S85 → Bool
 | [] => true
 | x :: xs => decide (0 ≤ x.f0) && decide (x.f0 ≤ 1000000000000) && decide (lo < x.f0) && incS x.f0 xs
def goodS (l : List S85) : Bool := decide (l.length ≤ 2000) && incS (-1) l
def ptS (l : List S85) (i : Nat) : Int := if i = 0 then -1 else (rd_T85 l ((i - 1 : Nat) : Int)).f0
theorem isTime_yes {x : Int} (h : 0 ≤ x ∧ x ≤ 1000000000000) : impl_isTime.f x = some true ∧ spec_l3Time.f x = some true := by
 unfold impl_isTime.f spec_l3Time.f
 rw [if_pos h.1, decide_eq_true h.2]
 exact ⟨rfl, rfl⟩
theorem isTime_no {x : Int} (h : ¬ (0 ≤ x ∧ x ≤ 1000000000000)) : impl_isTime.f x = some false ∧ spec_l3Time.f x = some false := by
 unfold impl_isTime.f spec_l3Time.f
 by_cases h0 : x ≥ 0
 ·rw [if_pos h0, decide_eq_false (by omega)]
  exact ⟨rfl, rfl⟩
 ·rw [if_neg h0]
  exact ⟨rfl, rfl⟩
theorem gs_impl (l : List S85) (hl : l.length ≤ 9223372036854775807) : ∀ i, i ≤ l.length → Ev (fun k => impl_GoodSamples.l0 k l l (l.length : Int) (i : Int)) ((incS (ptS l i) (l.drop i))) := by
 have hrd : ∀ (i : Nat) (h : i < l.length), rd_T85 l (i : Int) = l[i] := fun i h => getD_lt h
 refine up_ind l.length (fun i => Ev (fun k => impl_GoodSamples.l0 k l l (l.length : Int) (i : Int)) ((incS (ptS l i) (l.drop i)))) ?_ ?_
 ·rw [List.drop_length]
  refine ev_step (fun _ => impl_GoodSamples.l0.eq_2 ..) (ev_neg (by omega) ?_)
  exact ev_now _
 ·intro i h ih
  have hp : ptS l (i + 1) = l[i].f0 := by unfold ptS; rw [if_neg (by omega), Nat.add_sub_cancel, hrd i h]
  rw [hp] at ih
  have wi : wrap64 ((i : Int) + 1) = ((i + 1 : Nat) : Int) := w64n h hl
  refine ev_step (fun _ => impl_GoodSamples.l0.eq_2 ..) (ev_pos (by omega) (ev_pos (by omega) (ev_pos (by omega) ?_)))
  rw [hrd i h, List.drop_eq_getElem_cons h]
  by_cases ht : 0 ≤ l[i].f0 ∧ l[i].f0 ≤ 1000000000000
  ·refine ev_bind (ev_eq (isTime_yes ht).1) (ev_pos rfl ?_)
   by_cases hi : i = 0
   ·subst hi
    have e : incS (ptS l 0) (l[0] :: l.drop (0 + 1)) = incS l[0].f0 (l.drop (0 + 1)) := by simp [incS, ptS, ht]; omega
    rw [e, wi]
    exact ev_neg (by omega) ih
   ·have wm : wrap64 ((i : Int) - 1) = ((i - 1 : Nat) : Int) := by rw [w64 (by omega) (by omega)]; omega
    rw [wm, hrd (i - 1) (by omega)]
    refine ev_pos (by omega) (ev_pos (by omega) (ev_pos (by omega) ?_))
    have hq : ptS l i = l[i - 1].f0 := by unfold ptS; rw [if_neg hi, hrd (i - 1) (by omega)]
    rw [hq]
    by_cases hc : l[i - 1].f0 ≥ l[i].f0
    ·have e : incS l[i - 1].f0 (l[i] :: l.drop (i + 1)) = false := by simp [incS]; omega
     rw [e]
     refine ev_pos hc ?_
     exact ev_now _
    ·have e : incS l[i - 1].f0 (l[i] :: l.drop (i + 1)) = incS l[i].f0 (l.drop (i + 1)) := by simp [incS, ht]; omega
     rw [e, wi]
     exact ev_neg hc ih
  ·have e : incS (ptS l i) (l[i] :: l.drop (i + 1)) = false := by simp [incS]; omega
   rw [e]
   refine ev_bind (ev_eq (isTime_no ht).1) (ev_neg (by decide) ?_)
   exact ev_now _
theorem gs_spec (l : List S85) (hl : l.length ≤ 9223372036854775807) : ∀ i, i ≤ l.length → Ev (fun k => spec_GoodSamples.l0 k l l (l.length : Int) (i : Int)) (decide (l.length ≤ 2000) && (incS (ptS l i) (l.drop i))) := by
 have hrd : ∀ (i : Nat) (h : i < l.length), rd_T85 l (i : Int) = l[i] := fun i h => getD_lt h
 refine up_ind l.length (fun i => Ev (fun k => spec_GoodSamples.l0 k l l (l.length : Int) (i : Int)) (decide (l.length ≤ 2000) && (incS (ptS l i) (l.drop i)))) ?_ ?_
 ·rw [List.drop_length]
  refine ev_step (fun _ => spec_GoodSamples.l0.eq_2 ..) (ev_neg (by omega) ?_)
  rw [show decide ((l.length : Int) ≤ 2000) = (decide (l.length ≤ 2000) && incS (ptS l l.length) []) from by simp [incS]; omega]
  exact ev_now _
 ·intro i h ih
  have hp : ptS l (i + 1) = l[i].f0 := by unfold ptS; rw [if_neg (by omega), Nat.add_sub_cancel, hrd i h]
  rw [hp] at ih
  have wi : wrap64 ((i : Int) + 1) = ((i + 1 : Nat) : Int) := w64n h hl
  refine ev_step (fun _ => spec_GoodSamples.l0.eq_2 ..) (ev_pos (by omega) (ev_pos (by omega) (ev_pos (by omega) ?_)))
  rw [hrd i h, List.drop_eq_getElem_cons h]
  by_cases ht : 0 ≤ l[i].f0 ∧ l[i].f0 ≤ 1000000000000
  ·refine ev_bind (ev_eq (isTime_yes ht).2) (ev_pos rfl ?_)
   by_cases hi : i = 0
   ·subst hi
    have e : incS (ptS l 0) (l[0] :: l.drop (0 + 1)) = incS l[0].f0 (l.drop (0 + 1)) := by simp [incS, ptS, ht]; omega
    rw [e, wi]
    exact ev_neg (by omega) ih
   ·have wm : wrap64 ((i : Int) - 1) = ((i - 1 : Nat) : Int) := by rw [w64 (by omega) (by omega)]; omega
    rw [wm, hrd (i - 1) (by omega)]
    refine ev_pos (by omega) (ev_pos (by omega) (ev_pos (by omega) ?_))
    have hq : ptS l i = l[i - 1].f0 := by unfold ptS; rw [if_neg hi, hrd (i - 1) (by omega)]
    rw [hq]
    by_cases hc : l[i - 1].f0 ≥ l[i].f0
    ·have e : incS l[i - 1].f0 (l[i] :: l.drop (i + 1)) = false := by simp [incS]; omega
     rw [e]
     refine ev_pos hc ?_
     rw [Bool.and_false]
     exact ev_now _
    ·have e : incS l[i - 1].f0 (l[i] :: l.drop (i + 1)) = incS l[i].f0 (l.drop (i + 1)) := by simp [incS, ht]; omega
     rw [e, wi]
     exact ev_neg hc ih
  ·have e : incS (ptS l i) (l[i] :: l.drop (i + 1)) = false := by simp [incS]; omega
   rw [e]
   refine ev_bind (ev_eq (isTime_no ht).2) (ev_neg (by decide) ?_)
   rw [Bool.and_false]
   exact ev_now _
theorem goodSamples_impl (l : List S85) (hl : l.length ≤ 9223372036854775807) : Ev (fun k => impl_GoodSamples.f k l) (goodS l) := by
 unfold impl_GoodSamples.f goodS
 by_cases h : l.length ≤ 2000
 ·rw [decide_eq_true h, Bool.true_and]
  exact ev_neg (by omega) (gs_impl l hl 0 (by omega))
 ·rw [decide_eq_false h, Bool.false_and]
  exact ev_pos (by omega) (ev_now _)
theorem goodSamples_spec (l : List S85) (hl : l.length ≤ 9223372036854775807) : Ev (fun k => spec_GoodSamples.f k l) (goodS l) := by
 unfold spec_GoodSamples.f
 exact gs_spec l hl 0 (by omega)
end Go.Proofs.Ytknlgignjbghkaa.U
namespace Go.Proofs.Ytknlgignjbghkaa.U
open Go.RowKit Go.Proofs.Ytknlgignjbghkaa.Pr Go.Proofs.YtknlgignjbghkaaW.PrintWords Go.Proofs.YtknlgignjbghkaaW.PrintLast Go.Proofs.YtknlgignjbghkaaW.PrintMore
set_option linter.unusedVariables false
set_option linter.unusedSimpArgs false
def sm105 (x : S105) : Prop := x.f0.size ≤ 1048576 ∧ x.f1.size ≤ 1048576
def cv105 (x : S105) : S108 := ⟨x.f0, x.f1⟩
theorem toLabel (x : S105) (hx : sm105 x) : Ev (fun _ => laws_toLabel.f x.f0 x.f1) (x.f0, x.f1) := by
 obtain ⟨h0, h1⟩ := hx
 unfold laws_toLabel.f
 exact ev_now _
theorem eqLabel (x : S108) : Ev (fun _ => laws_eqLabel.f x.f0 x.f1 x.f0 x.f1) true := ev_eq (by simp [laws_eqLabel.f])
def sw105 (x : S105) : Prop := (x.f0.size ≤ maxLen) ∧ (x.f1.size ≤ maxLen)
theorem szLabel (x : S105) (c : Int) (h0 : 0 ≤ c) (h1 : c ≤ 1048576) (hw : sw105 x) : ∃ r, Ev (fun _ => laws_szLabel.f x.f0 x.f1 c) r ∧ r ≤ c ∧ (0 ≤ r → sm105 x) := by
 obtain ⟨w0, w1⟩ := hw
 unfold laws_szLabel.f
 simp only [maxLen] at w0
 rw [w64 (x := c - (x.f0.size : Int)) (by omega) (by omega)]
 by_cases n0 : c - (x.f0.size : Int) < 0
 ·exact ⟨-1, ev_pos n0 (ev_now _), by omega, fun h => absurd h (by decide)⟩
 ·skip
  simp only [maxLen] at w1
  rw [w64 (x := (c - (x.f0.size : Int)) - (x.f1.size : Int)) (by omega) (by omega)]
  by_cases n1 : (c - (x.f0.size : Int)) - (x.f1.size : Int) < 0
  ·exact ⟨-1, ev_neg n0 (ev_pos n1 (ev_now _)), by omega, fun h => absurd h (by decide)⟩
  ·skip
   exact ⟨_, ev_neg n0 (ev_neg n1 (ev_now _)), by omega, fun _ => ⟨by omega, by omega⟩⟩
end Go.Proofs.Ytknlgignjbghkaa.U
namespace Go.Proofs.Ytknlgignjbghkaa.U
open Go.RowKit Go.Proofs.Ytknlgignjbghkaa.Pr Go.Proofs.YtknlgignjbghkaaW.PrintWords Go.Proofs.YtknlgignjbghkaaW.PrintLast Go.Proofs.YtknlgignjbghkaaW.PrintMore
set_option linter.unusedVariables false
set_option linter.unusedSimpArgs false
end Go.Proofs.Ytknlgignjbghkaa.U
namespace Go.Proofs.Ytknlgignjbghkaa.U
open Go.RowKit Go.Proofs.Ytknlgignjbghkaa.Pr Go.Proofs.YtknlgignjbghkaaW.PrintWords Go.Proofs.YtknlgignjbghkaaW.PrintLast Go.Proofs.YtknlgignjbghkaaW.PrintMore
set_option linter.unusedVariables false
set_option linter.unusedSimpArgs false
theorem toLabelS (l : List (S105)) (hl : (l.length ≤ 1048576 ∧ ∀ y ∈ l, sm105 y)) : Ev (fun k => laws_toLabelS.f k l) (l.map cv105) := by
 obtain ⟨hl, hs⟩ := hl
 unfold laws_toLabelS.f
 repeat (first | (with_reducible refine ev_pos (by first | omega | rfl | decide) ?_) | (with_reducible refine ev_neg (by first | omega | decide) ?_))
 have key := ev_copy (F := fun k y i => laws_toLabelS.l0 k l y i) cv105 l (List.replicate ((l.length : Int) : Int).toNat z108) (by simp) ?step ?done
 case step =>
  intro i h y r hy hr
  refine ev_step (fun _ => laws_toLabelS.l0.eq_2 ..) ?_
  repeat (first | (with_reducible refine ev_pos (by first | omega | rfl | decide) ?_) | (with_reducible refine ev_neg (by first | omega | decide) ?_))
  rw [(show rd_T105 l (i : Int) = l[i] from getD_lt h)]
  refine ev_bind (toLabel l[i] (hs _ (List.getElem_mem h))) ?_
  repeat (first | (with_reducible refine ev_pos (by first | omega | rfl | decide) ?_) | (with_reducible refine ev_neg (by first | omega | decide) ?_))
  rw [w64n h (by omega), Int.toNat_natCast]
  exact hr
 case done =>
  intro y hy
  refine ev_step (fun _ => laws_toLabelS.l0.eq_2 ..) ?_
  repeat (first | (with_reducible refine ev_pos (by first | omega | rfl | decide) ?_) | (with_reducible refine ev_neg (by first | omega | decide) ?_))
  exact ev_now _
 exact key
theorem eqLabelS (l : List (S108)) (hl : l.length ≤ 1048576) : Ev (fun k => laws_eqLabelS.f k l l) true := by
 unfold laws_eqLabelS.f
 refine ev_pos rfl ?_
 refine up_ind l.length (fun i => Ev (fun k => laws_eqLabelS.l0 k l l (i : Int)) true) ?_ ?_ 0 (by omega)
 ·refine ev_step (fun _ => laws_eqLabelS.l0.eq_2 ..) ?_
  refine ev_neg (by omega) ?_
  exact ev_now _
 ·intro i h ih
  refine ev_step (fun _ => laws_eqLabelS.l0.eq_2 ..) ?_
  repeat (first | (with_reducible refine ev_pos (by first | omega | rfl | decide) ?_) | (with_reducible refine ev_neg (by first | omega | decide) ?_))
  refine ev_bind (eqLabel _) ?_
  refine ev_pos rfl ?_
  rw [w64n h (by omega)]
  exact ih
theorem szLabelS (l : List (S105)) (c : Int) (h0 : 0 ≤ c) (h1 : c ≤ 1048576) (hl : l.length ≤ maxLen) (hw : ∀ x ∈ l, sw105 x) : ∃ r, Ev (fun k => laws_szLabelS.f k l c) r ∧ r ≤ c ∧ (0 ≤ r → (l.length ≤ 1048576 ∧ ∀ y ∈ l, sm105 y)) := by
 simp only [maxLen] at hl
 unfold laws_szLabelS.f
 rw [w64 (x := c - (l.length : Int)) (by omega) (by omega)]
 by_cases hn : c - (l.length : Int) < 0
 ·exact ⟨-1, ev_pos hn (ev_now _), by omega, fun h => absurd h (by decide)⟩
 ·have key := up_ind l.length (fun i => ∀ c : Int, 0 ≤ c → c ≤ 1048576 → ∃ r, Ev (fun k => laws_szLabelS.l0 k l c (i : Int)) r ∧ r ≤ c ∧ (0 ≤ r → ∀ j (h : j < l.length), i ≤ j → sm105 l[j])) ?d ?s 0 (by omega) (c - (l.length : Int)) (by omega) (by omega)
  case d => exact fun c h0 h1 => ⟨c, ev_step (fun _ => laws_szLabelS.l0.eq_2 ..) (ev_neg (by omega) (ev_now _)), Int.le_refl _, fun _ j h hj => by omega⟩
  case s =>
   intro i h ih c h0 h1
   obtain ⟨r1, e1, hr1, hs1⟩ := szLabel l[i] c h0 h1 (hw _ (List.getElem_mem h))
   by_cases hr : r1 < 0
   ·refine ⟨-1, ev_step (fun _ => laws_szLabelS.l0.eq_2 ..) ?_, by omega, fun h => absurd h (by decide)⟩
    repeat (first | (with_reducible refine ev_pos (by first | omega | rfl | decide) ?_) | (with_reducible refine ev_neg (by first | omega | decide) ?_))
    rw [(show rd_T105 l (i : Int) = l[i] from getD_lt h)]
    exact ev_bind e1 (ev_pos hr (ev_now _))
   ·obtain ⟨r, e, hrc, hs⟩ := ih (r1) (by omega) (by omega)
    refine ⟨r, ev_step (fun _ => laws_szLabelS.l0.eq_2 ..) ?_, by omega, fun h2 j hj hij => ?_⟩
    ·repeat (first | (with_reducible refine ev_pos (by first | omega | rfl | decide) ?_) | (with_reducible refine ev_neg (by first | omega | decide) ?_))
     rw [(show rd_T105 l (i : Int) = l[i] from getD_lt h)]
     refine ev_bind e1 (ev_neg hr ?_)
     rw [w64n h (by omega)]
     exact e
    ·by_cases ej : j = i
     ·subst ej
      exact hs1 (by omega)
     ·exact hs h2 j hj (by omega)
  obtain ⟨r, e, hrc, hs⟩ := key
  refine ⟨r, ev_neg hn e, by omega, fun h => ⟨by omega, fun y hy => ?_⟩⟩
  obtain ⟨j, hj, rfl⟩ := List.getElem_of_mem hy
  exact hs h j hj (by omega)
end Go.Proofs.Ytknlgignjbghkaa.U
namespace Go.Proofs.Ytknlgignjbghkaa.U
open Go.RowKit Go.Proofs.Ytknlgignjbghkaa.Pr Go.Proofs.YtknlgignjbghkaaW.PrintWords Go.Proofs.YtknlgignjbghkaaW.PrintLast Go.Proofs.YtknlgignjbghkaaW.PrintMore
set_option linter.unusedVariables false
set_option linter.unusedSimpArgs false
def cv180 (x : S180) : S85 := ⟨x.f0, x.f1⟩
theorem toSample (x : S180) : Ev (fun _ => laws_toSample.f x.f0 x.f1) (x.f0, x.f1) := by
 unfold laws_toSample.f
 exact ev_now _
theorem eqSample (x : S85) : Ev (fun _ => laws_eqSample.f x.f0 x.f1 x.f0 x.f1) true := ev_eq (by simp [laws_eqSample.f])
end Go.Proofs.Ytknlgignjbghkaa.U
namespace Go.Proofs.Ytknlgignjbghkaa.U
open Go.RowKit Go.Proofs.Ytknlgignjbghkaa.Pr Go.Proofs.YtknlgignjbghkaaW.PrintWords Go.Proofs.YtknlgignjbghkaaW.PrintLast Go.Proofs.YtknlgignjbghkaaW.PrintMore
set_option linter.unusedVariables false
set_option linter.unusedSimpArgs false
theorem toSampleS (l : List (S180)) (hl : l.length ≤ 1048576) : Ev (fun k => laws_toSampleS.f k l) (l.map cv180) := by
 unfold laws_toSampleS.f
 repeat (first | (with_reducible refine ev_pos (by first | omega | rfl | decide) ?_) | (with_reducible refine ev_neg (by first | omega | decide) ?_))
 have key := ev_copy (F := fun k y i => laws_toSampleS.l0 k l y i) cv180 l (List.replicate ((l.length : Int) : Int).toNat z85) (by simp) ?step ?done
 case step =>
  intro i h y r hy hr
  refine ev_step (fun _ => laws_toSampleS.l0.eq_2 ..) ?_
  repeat (first | (with_reducible refine ev_pos (by first | omega | rfl | decide) ?_) | (with_reducible refine ev_neg (by first | omega | decide) ?_))
  rw [(show rd_T180 l (i : Int) = l[i] from getD_lt h)]
  refine ev_bind (toSample l[i] ) ?_
  repeat (first | (with_reducible refine ev_pos (by first | omega | rfl | decide) ?_) | (with_reducible refine ev_neg (by first | omega | decide) ?_))
  rw [w64n h (by omega), Int.toNat_natCast]
  exact hr
 case done =>
  intro y hy
  refine ev_step (fun _ => laws_toSampleS.l0.eq_2 ..) ?_
  repeat (first | (with_reducible refine ev_pos (by first | omega | rfl | decide) ?_) | (with_reducible refine ev_neg (by first | omega | decide) ?_))
  exact ev_now _
 exact key
theorem eqSampleS (l : List (S85)) (hl : l.length ≤ 1048576) : Ev (fun k => laws_eqSampleS.f k l l) true := by
 unfold laws_eqSampleS.f
 refine ev_pos rfl ?_
 refine up_ind l.length (fun i => Ev (fun k => laws_eqSampleS.l0 k l l (i : Int)) true) ?_ ?_ 0 (by omega)
 ·refine ev_step (fun _ => laws_eqSampleS.l0.eq_2 ..) ?_
  refine ev_neg (by omega) ?_
  exact ev_now _
 ·intro i h ih
  refine ev_step (fun _ => laws_eqSampleS.l0.eq_2 ..) ?_
  repeat (first | (with_reducible refine ev_pos (by first | omega | rfl | decide) ?_) | (with_reducible refine ev_neg (by first | omega | decide) ?_))
  refine ev_bind (eqSample _) ?_
  refine ev_pos rfl ?_
  rw [w64n h (by omega)]
  exact ih
theorem szSampleS (l : List (S180)) (c : Int) (h0 : 0 ≤ c) (h1 : c ≤ 1048576) (hl : l.length ≤ maxLen)  : ∃ r, Ev (fun _ => laws_szSampleS.f l c) r ∧ r ≤ c ∧ (0 ≤ r → l.length ≤ 1048576) := by
 simp only [maxLen] at hl
 unfold laws_szSampleS.f
 rw [w64 (x := c - (l.length : Int)) (by omega) (by omega)]
 by_cases hn : c - (l.length : Int) < 0
 ·exact ⟨-1, ev_pos hn (ev_now _), by omega, fun h => absurd h (by decide)⟩
 ·exact ⟨_, ev_neg hn (ev_now _), by omega, fun _ => by omega⟩
end Go.Proofs.Ytknlgignjbghkaa.U
namespace Go.Proofs.Ytknlgignjbghkaa.U
open Go.RowKit Go.Proofs.Ytknlgignjbghkaa.Pr Go.Proofs.YtknlgignjbghkaaW.PrintWords Go.Proofs.YtknlgignjbghkaaW.PrintLast Go.Proofs.YtknlgignjbghkaaW.PrintMore
set_option linter.unusedVariables false
set_option linter.unusedSimpArgs false
def sm98 (x : S98) : Prop := (x.f0.length ≤ 1048576 ∧ ∀ y ∈ x.f0, sm105 y) ∧ x.f1.length ≤ 1048576
def cv98 (x : S98) : S83 := ⟨x.f0.map cv105, x.f1.map cv180⟩
theorem toSeries (x : S98) (hx : sm98 x) : Ev (fun k => laws_toSeries.f k x.f0 x.f1) (x.f0.map cv105, x.f1.map cv180) := by
 obtain ⟨h0, h1⟩ := hx
 unfold laws_toSeries.f
 refine ev_bind (toLabelS _ h0) ?_
 refine ev_bind (toSampleS _ h1) ?_
 exact ev_now _
def se83 (x : S83) : Prop := (x.f0.length ≤ 1048576) ∧ (x.f1.length ≤ 1048576)
theorem eqSeries (x : S83) (hx : se83 x) : Ev (fun k => laws_eqSeries.f k x.f0 x.f1 x.f0 x.f1) true := by
 obtain ⟨h0, h1⟩ := hx
 unfold laws_eqSeries.f
 refine ev_bind (eqLabelS _ h0) ?_
 refine ev_pos rfl ?_
 refine ev_bind (eqSampleS _ h1) ?_
 refine ev_pos rfl ?_
 exact ev_now _
def sw98 (x : S98) : Prop := (x.f0.length ≤ maxLen ∧ ∀ y ∈ x.f0, sw105 y) ∧ (x.f1.length ≤ maxLen ∧ ∀ y ∈ x.f1, ((-9223372036854775808 ≤ (y.f0 : Int) ∧ (y.f0 : Int) ≤ 9223372036854775807)) ∧ ((-9223372036854775808 ≤ (y.f1 : Int) ∧ (y.f1 : Int) ≤ 9223372036854775807)))
theorem szSeries (x : S98) (c : Int) (h0 : 0 ≤ c) (h1 : c ≤ 1048576) (hw : sw98 x) : ∃ r, Ev (fun k => laws_szSeries.f k x.f0 x.f1 c) r ∧ r ≤ c ∧ (0 ≤ r → sm98 x) := by
 obtain ⟨w0, w1⟩ := hw
 unfold laws_szSeries.f
 obtain ⟨r0, e0, q0, s0⟩ := szLabelS x.f0 c (by omega) (by omega) w0.1 w0.2
 by_cases n0 : r0 < 0
 ·exact ⟨-1, ev_bind e0 (ev_pos n0 (ev_now _)), by omega, fun h => absurd h (by decide)⟩
 ·skip
  obtain ⟨r1, e1, q1, s1⟩ := szSampleS x.f1 r0 (by omega) (by omega) w1.1
  by_cases n1 : r1 < 0
  ·exact ⟨-1, ev_bind e0 (ev_neg n0 (ev_bind e1 (ev_pos n1 (ev_now _)))), by omega, fun h => absurd h (by decide)⟩
  ·skip
   exact ⟨_, ev_bind e0 (ev_neg n0 (ev_bind e1 (ev_neg n1 (ev_now _)))), by omega, fun _ => ⟨s0 (by omega), s1 (by omega)⟩⟩
end Go.Proofs.Ytknlgignjbghkaa.U
namespace Go.Proofs.Ytknlgignjbghkaa.U
open Go.RowKit Go.Proofs.Ytknlgignjbghkaa.Pr Go.Proofs.YtknlgignjbghkaaW.PrintWords Go.Proofs.YtknlgignjbghkaaW.PrintLast Go.Proofs.YtknlgignjbghkaaW.PrintMore
set_option linter.unusedVariables false
set_option linter.unusedSimpArgs false
theorem toSeriesS (l : List (S98)) (hl : (l.length ≤ 1048576 ∧ ∀ y ∈ l, sm98 y)) : Ev (fun k => laws_toSeriesS.f k l) (l.map cv98) := by
 obtain ⟨hl, hs⟩ := hl
 unfold laws_toSeriesS.f
 repeat (first | (with_reducible refine ev_pos (by first | omega | rfl | decide) ?_) | (with_reducible refine ev_neg (by first | omega | decide) ?_))
 have key := ev_copy (F := fun k y i => laws_toSeriesS.l0 k l y i) cv98 l (List.replicate ((l.length : Int) : Int).toNat z83) (by simp) ?step ?done
 case step =>
  intro i h y r hy hr
  refine ev_step (fun _ => laws_toSeriesS.l0.eq_2 ..) ?_
  repeat (first | (with_reducible refine ev_pos (by first | omega | rfl | decide) ?_) | (with_reducible refine ev_neg (by first | omega | decide) ?_))
  rw [(show rd_T98 l (i : Int) = l[i] from getD_lt h)]
  refine ev_bind (toSeries l[i] (hs _ (List.getElem_mem h))) ?_
  repeat (first | (with_reducible refine ev_pos (by first | omega | rfl | decide) ?_) | (with_reducible refine ev_neg (by first | omega | decide) ?_))
  rw [w64n h (by omega), Int.toNat_natCast]
  exact hr
 case done =>
  intro y hy
  refine ev_step (fun _ => laws_toSeriesS.l0.eq_2 ..) ?_
  repeat (first | (with_reducible refine ev_pos (by first | omega | rfl | decide) ?_) | (with_reducible refine ev_neg (by first | omega | decide) ?_))
  exact ev_now _
 exact key
theorem eqSeriesS (l : List (S83)) (hl : l.length ≤ 1048576) (hs : ∀ x ∈ l, se83 x) : Ev (fun k => laws_eqSeriesS.f k l l) true := by
 unfold laws_eqSeriesS.f
 refine ev_pos rfl ?_
 refine up_ind l.length (fun i => Ev (fun k => laws_eqSeriesS.l0 k l l (i : Int)) true) ?_ ?_ 0 (by omega)
 ·refine ev_step (fun _ => laws_eqSeriesS.l0.eq_2 ..) ?_
  refine ev_neg (by omega) ?_
  exact ev_now _
 ·intro i h ih
  refine ev_step (fun _ => laws_eqSeriesS.l0.eq_2 ..) ?_
  repeat (first | (with_reducible refine ev_pos (by first | omega | rfl | decide) ?_) | (with_reducible refine ev_neg (by first | omega | decide) ?_))
  rw [(show rd_T83 l (i : Int) = l[i] from getD_lt h)]
  refine ev_bind (eqSeries l[i] (hs _ (List.getElem_mem h))) ?_
  refine ev_pos rfl ?_
  rw [w64n h (by omega)]
  exact ih
theorem szSeriesS (l : List (S98)) (c : Int) (h0 : 0 ≤ c) (h1 : c ≤ 1048576) (hl : l.length ≤ maxLen) (hw : ∀ x ∈ l, sw98 x) : ∃ r, Ev (fun k => laws_szSeriesS.f k l c) r ∧ r ≤ c ∧ (0 ≤ r → (l.length ≤ 1048576 ∧ ∀ y ∈ l, sm98 y)) := by
 simp only [maxLen] at hl
 unfold laws_szSeriesS.f
 rw [w64 (x := c - (l.length : Int)) (by omega) (by omega)]
 by_cases hn : c - (l.length : Int) < 0
 ·exact ⟨-1, ev_pos hn (ev_now _), by omega, fun h => absurd h (by decide)⟩
 ·have key := up_ind l.length (fun i => ∀ c : Int, 0 ≤ c → c ≤ 1048576 → ∃ r, Ev (fun k => laws_szSeriesS.l0 k l c (i : Int)) r ∧ r ≤ c ∧ (0 ≤ r → ∀ j (h : j < l.length), i ≤ j → sm98 l[j])) ?d ?s 0 (by omega) (c - (l.length : Int)) (by omega) (by omega)
  case d => exact fun c h0 h1 => ⟨c, ev_step (fun _ => laws_szSeriesS.l0.eq_2 ..) (ev_neg (by omega) (ev_now _)), Int.le_refl _, fun _ j h hj => by omega⟩
  case s =>
   intro i h ih c h0 h1
   obtain ⟨r1, e1, hr1, hs1⟩ := szSeries l[i] c h0 h1 (hw _ (List.getElem_mem h))
   by_cases hr : r1 < 0
   ·refine ⟨-1, ev_step (fun _ => laws_szSeriesS.l0.eq_2 ..) ?_, by omega, fun h => absurd h (by decide)⟩
    repeat (first | (with_reducible refine ev_pos (by first | omega | rfl | decide) ?_) | (with_reducible refine ev_neg (by first | omega | decide) ?_))
    rw [(show rd_T98 l (i : Int) = l[i] from getD_lt h)]
    exact ev_bind e1 (ev_pos hr (ev_now _))
   ·obtain ⟨r, e, hrc, hs⟩ := ih (r1) (by omega) (by omega)
    refine ⟨r, ev_step (fun _ => laws_szSeriesS.l0.eq_2 ..) ?_, by omega, fun h2 j hj hij => ?_⟩
    ·repeat (first | (with_reducible refine ev_pos (by first | omega | rfl | decide) ?_) | (with_reducible refine ev_neg (by first | omega | decide) ?_))
     rw [(show rd_T98 l (i : Int) = l[i] from getD_lt h)]
     refine ev_bind e1 (ev_neg hr ?_)
     rw [w64n h (by omega)]
     exact e
    ·by_cases ej : j = i
     ·subst ej
      exact hs1 (by omega)
     ·exact hs h2 j hj (by omega)
  obtain ⟨r, e, hrc, hs⟩ := key
  refine ⟨r, ev_neg hn e, by omega, fun h => ⟨by omega, fun y hy => ?_⟩⟩
  obtain ⟨j, hj, rfl⟩ := List.getElem_of_mem hy
  exact hs h j hj (by omega)
end Go.Proofs.Ytknlgignjbghkaa.U
namespace Go.Proofs.Ytknlgignjbghkaa.U
open Go.RowKit Go.Proofs.Ytknlgignjbghkaa.Pr Go.Proofs.YtknlgignjbghkaaW.PrintWords Go.Proofs.YtknlgignjbghkaaW.PrintLast Go.Proofs.YtknlgignjbghkaaW.PrintMore
set_option linter.unusedVariables false
set_option linter.unusedSimpArgs false
theorem fitL_cv (l : List S105) (h : l.length ≤ 1048576 ∧ ∀ x ∈ l, sm105 x) : fitL (l.map cv105) := by
 refine ⟨by rw [List.length_map]; omega, fun x hx => ?_⟩
 obtain ⟨y, hy, rfl⟩ := List.mem_map.1 hx
 obtain ⟨h1, h2⟩ := h.2 y hy
 exact ⟨by show y.f0.size ≤ _; omega, by show y.f1.size ≤ _; omega⟩
end Go.Proofs.Ytknlgignjbghkaa.U
namespace Go.Proofs.Ytknlgignjbghkaa.U
open Go.RowKit Go.Proofs.Ytknlgignjbghkaa.Pr Go.Proofs.YtknlgignjbghkaaW.PrintWords Go.Proofs.YtknlgignjbghkaaW.PrintLast Go.Proofs.YtknlgignjbghkaaW.PrintMore
set_option linter.unusedVariables false
set_option linter.unusedSimpArgs false
def namedS (l : List S108) : Bool := goodL l && ((ofL (⟨#[95, 110, 97, 109, 101]⟩ : ByteArray) l).toList != [])
def beforeS (p : Option (List S108)) (l : List S108) : Bool := match p with
 | none => true
 | some q => decide (cmpLL q l < 0)
/-- Series that rise from p on, each with a name of its own and with good samples. -/
def serL (p : Option (List S108)) : List S83 → Bool
 | [] => true
 | x :: xs => namedS x.f0 && decide (x.f1.length ≠ 0) && goodS x.f1 && beforeS p x.f0 && serL (some x.f0) xs
def goodSer (l : List S83) : Bool := decide (l.length ≤ 200) && serL none l
def fitS (l : List S83) : Prop := l.length ≤ 9223372036854775807 ∧ ∀ x ∈ l, fitL x.f0 ∧ x.f1.length ≤ 9223372036854775807
def ptSer (l : List S83) (i : Nat) : Option (List S108) := if i = 0 then none else some (rd_T83 l ((i - 1 : Nat) : Int)).f0
theorem ser_impl (l : List S83) (hf : fitS l) : Ev (fun k => impl_GoodSeries.l0 k l l (l.length : Int) 0) (serL none l) := by
 obtain ⟨hl, hw⟩ := hf
 have hrd : ∀ (i : Nat) (h : i < l.length), rd_T83 l (i : Int) = l[i] := fun i h => getD_lt h
 refine up_ind l.length (fun i => Ev (fun k => impl_GoodSeries.l0 k l l (l.length : Int) (i : Int)) (serL (ptSer l i) (l.drop i))) ?_ ?_ 0 (by omega)
 ·rw [List.drop_length]
  refine ev_step (fun _ => impl_GoodSeries.l0.eq_2 ..) (ev_neg (by omega) ?_)
  exact ev_now _
 ·intro i h ih
  have hp : ptSer l (i + 1) = some l[i].f0 := by unfold ptSer; rw [if_neg (by omega), Nat.add_sub_cancel, hrd i h]
  rw [hp] at ih
  have wi : wrap64 ((i : Int) + 1) = ((i + 1 : Nat) : Int) := w64n h hl
  obtain ⟨fl, fs⟩ := hw l[i] (List.getElem_mem h)
  refine ev_step (fun _ => impl_GoodSeries.l0.eq_2 ..) (ev_pos (by omega) (ev_pos (by omega) (ev_pos (by omega) ?_)))
  rw [hrd i h, List.drop_eq_getElem_cons h]
  simp only [serL, namedS]
  refine ev_bind (goodLabels_impl _ fl) (ev_ite (fun g => ?_) (fun g => ?_))
  ·rw [g, Bool.true_and]
   refine ev_bind (of_impl _ fl.1 _) (ev_ite (fun n => ?_) (fun n => ?_))
   ·rw [n]
    exact ev_now _
   ·rw [show ((ofL (⟨#[95, 110, 97, 109, 101]⟩ : ByteArray) l[i].f0).toList != []) = true from bne_iff_ne.2 n, Bool.true_and]
    refine ev_ite (fun z => ?_) (fun z => ?_)
    ·rw [decide_eq_false (show ¬ l[i].f1.length ≠ 0 from by omega)]
     exact ev_now _
    ·rw [decide_eq_true (show l[i].f1.length ≠ 0 from by omega), Bool.true_and]
     refine ev_bind (goodSamples_impl _ fs) (ev_ite (fun s => ?_) (fun s => ?_))
     ·rw [s, Bool.true_and]
      by_cases hi : i = 0
      ·subst hi
       rw [wi]
       exact ev_neg (by omega) ih
      ·have wm : wrap64 ((i : Int) - 1) = ((i - 1 : Nat) : Int) := by rw [w64 (by omega) (by omega)]; omega
       have hq : ptSer l i = some l[i - 1].f0 := by unfold ptSer; rw [if_neg hi, hrd (i - 1) (by omega)]
       rw [wm, hrd (i - 1) (by omega), hq, wi]
       refine ev_pos (by omega) (ev_pos (by omega) (ev_pos (by omega) (ev_bind (cmpLL_impl _ _ (hw l[i - 1] (List.getElem_mem (by omega))).1 fl) ?_)))
       simp only [beforeS]
       refine ev_ite (fun c => ?_) (fun c => ?_)
       ·rw [decide_eq_false (by omega), Bool.false_and]
        exact ev_now _
       ·rw [decide_eq_true (by omega), Bool.true_and]
        exact ih
     ·rw [Bool.eq_false_iff.2 s]
      exact ev_now _
  ·rw [Bool.eq_false_iff.2 g]
   exact ev_now _
theorem goodSeries_impl (l : List S83) (hf : fitS l) : Ev (fun k => impl_GoodSeries.f k l) (goodSer l) := by
 unfold impl_GoodSeries.f goodSer
 refine ev_ite (fun h => ?_) (fun h => ?_)
 ·rw [decide_eq_false (by omega)]
  exact ev_now _
 ·rw [decide_eq_true (by omega), Bool.true_and]
  exact ser_impl l hf
theorem named_spec (l : List S108) (hf : fitL l) : Ev (fun k => spec_l7Named.f k l) (namedS l) := by
 unfold spec_l7Named.f namedS
 refine ev_bind (goodLabels_spec _ hf) (ev_ite (fun g => ?_) (fun g => ?_))
 ·rw [g, Bool.true_and]
  exact ev_bind (of_spec _ hf.1 _) (ev_now _)
 ·rw [Bool.eq_false_iff.2 g]
  exact ev_now _
theorem ser_spec (l : List S83) (hf : fitS l) : Ev (fun k => spec_GoodSeries.l0 k l l (l.length : Int) 0) (serL none l) := by
 obtain ⟨hl, hw⟩ := hf
 have hrd : ∀ (i : Nat) (h : i < l.length), rd_T83 l (i : Int) = l[i] := fun i h => getD_lt h
 refine up_ind l.length (fun i => Ev (fun k => spec_GoodSeries.l0 k l l (l.length : Int) (i : Int)) (serL (ptSer l i) (l.drop i))) ?_ ?_ 0 (by omega)
 ·rw [List.drop_length]
  refine ev_step (fun _ => spec_GoodSeries.l0.eq_2 ..) (ev_neg (by omega) ?_)
  exact ev_now _
 ·intro i h ih
  have hp : ptSer l (i + 1) = some l[i].f0 := by unfold ptSer; rw [if_neg (by omega), Nat.add_sub_cancel, hrd i h]
  rw [hp] at ih
  have wi : wrap64 ((i : Int) + 1) = ((i + 1 : Nat) : Int) := w64n h hl
  obtain ⟨fl, fs⟩ := hw l[i] (List.getElem_mem h)
  refine ev_step (fun _ => spec_GoodSeries.l0.eq_2 ..) (ev_pos (by omega) (ev_pos (by omega) (ev_pos (by omega) ?_)))
  rw [hrd i h, List.drop_eq_getElem_cons h]
  simp only [serL]
  refine ev_bind (named_spec _ fl) (ev_ite (fun g => ?_) (fun g => ?_))
  ·rw [g, Bool.true_and]
   refine ev_bind (goodSamples_spec _ fs) (ev_ite (fun s => ?_) (fun s => ?_))
   ·rw [s, Bool.and_true]
    refine ev_ite (fun z => ?_) (fun z => ?_)
    ·rw [decide_eq_false (show ¬ l[i].f1.length ≠ 0 from by omega)]
     exact ev_now _
    ·rw [decide_eq_true (show l[i].f1.length ≠ 0 from by omega), Bool.true_and]
     by_cases hi : i = 0
     ·subst hi
      rw [wi]
      exact ev_neg (by omega) ih
     ·have wm : wrap64 ((i : Int) - 1) = ((i - 1 : Nat) : Int) := by rw [w64 (by omega) (by omega)]; omega
      have hq : ptSer l i = some l[i - 1].f0 := by unfold ptSer; rw [if_neg hi, hrd (i - 1) (by omega)]
      rw [wm, hrd (i - 1) (by omega), hq, wi]
      refine ev_pos (by omega) (ev_pos (by omega) (ev_pos (by omega) (ev_bind (cmpLL_spec _ _ (hw l[i - 1] (List.getElem_mem (by omega))).1 fl) ?_)))
      simp only [beforeS]
      refine ev_ite (fun c => ?_) (fun c => ?_)
      ·rw [decide_eq_false (by omega), Bool.false_and]
       exact ev_now _
      ·rw [decide_eq_true (by omega), Bool.true_and]
       exact ih
   ·rw [Bool.eq_false_iff.2 s, Bool.and_false]
    exact ev_now _
  ·rw [Bool.eq_false_iff.2 g]
   exact ev_now _
theorem goodSeries_spec (l : List S83) (hf : fitS l) : Ev (fun k => spec_GoodSeries.f k l) (goodSer l) := by
 unfold spec_GoodSeries.f goodSer
 refine ev_ite (fun h => ?_) (fun h => ?_)
 ·rw [decide_eq_false (by omega)]
  exact ev_now _
 ·rw [decide_eq_true (by omega), Bool.true_and]
  exact ser_spec l hf
theorem fitS_cv (l : List S98) (h : l.length ≤ 1048576 ∧ ∀ x ∈ l, sm98 x) : fitS (l.map cv98) := by
 refine ⟨by rw [List.length_map]; omega, fun x hx => ?_⟩
 obtain ⟨y, hy, rfl⟩ := List.mem_map.1 hx
 obtain ⟨h1, h2⟩ := h.2 y hy
 exact ⟨fitL_cv _ h1, by show (y.f1.map _).length ≤ _; rw [List.length_map]; omega⟩
theorem seS_cv (l : List S98) (h : l.length ≤ 1048576 ∧ ∀ x ∈ l, sm98 x) : ∀ x ∈ l.map cv98, se83 x := by
 intro x hx
 obtain ⟨y, hy, rfl⟩ := List.mem_map.1 hx
 obtain ⟨h1, h2⟩ := h.2 y hy
 exact ⟨by show (y.f0.map _).length ≤ _; rw [List.length_map]; exact h1.1, by show (y.f1.map _).length ≤ _; rw [List.length_map]; exact h2⟩
end Go.Proofs.Ytknlgignjbghkaa.U
namespace Go.Proofs.Ytknlgignjbghkaa.U
open Go.RowKit Go.Proofs.Ytknlgignjbghkaa.Pr Go.Proofs.YtknlgignjbghkaaW.PrintWords Go.Proofs.YtknlgignjbghkaaW.PrintLast Go.Proofs.YtknlgignjbghkaaW.PrintMore
set_option linter.unusedVariables false
set_option linter.unusedSimpArgs false
theorem cmpL_eq : ∀ a b : List UInt8, cmpL a b = 0 → a = b
 | [], [] => fun _ => rfl
 | [], _ :: _ => fun h => absurd h (by simp [cmpL])
 | _ :: _, [] => fun h => absurd h (by simp [cmpL])
 | a :: l, b :: m => by
  intro h
  simp only [cmpL] at h
  by_cases e : (a.toNat : Int) = (b.toNat : Int)
  ·rw [if_pos e] at h
   rw [cmpL_eq l m h, UInt8.toNat_inj.1 (show a.toNat = b.toNat by omega)]
  ·rw [if_neg e] at h
   split at h <;> omega
theorem cmpL_trans : ∀ a b c : List UInt8, cmpL a b ≤ 0 → cmpL b c ≤ 0 → cmpL a c ≤ 0 ∧ (cmpL a b < 0 ∨ cmpL b c < 0 → cmpL a c < 0)
 | [], [], _ => fun _ h => ⟨h, fun h2 => h2.elim (fun h3 => absurd h3 (by simp [cmpL])) id⟩
 | [], _ :: _, [] => fun _ h => absurd h (by simp [cmpL])
 | [], _ :: _, _ :: _ => fun _ _ => ⟨by simp [cmpL], fun _ => by simp [cmpL]⟩
 | _ :: _, [], _ => fun h => absurd h (by simp [cmpL])
 | _ :: _, _ :: _, [] => fun _ h => absurd h (by simp [cmpL])
 | x :: a, y :: b, z :: c => by
  have ih := cmpL_trans a b c
  simp only [cmpL]
  by_cases h1 : (x.toNat : Int) = (y.toNat : Int)
  ·rw [if_pos h1]
   by_cases h2 : (y.toNat : Int) = (z.toNat : Int)
   ·rw [if_pos h2, if_pos (h1.trans h2)]
    exact ih
   ·rw [if_neg h2, if_neg (show ¬ (x.toNat : Int) = (z.toNat : Int) by omega)]
    by_cases h3 : (y.toNat : Int) < (z.toNat : Int)
    ·rw [if_pos h3, if_pos (show (x.toNat : Int) < (z.toNat : Int) by omega)]
     exact fun _ _ => ⟨by omega, fun _ => by omega⟩
    ·rw [if_neg h3]
     intro _ h
     omega
  ·rw [if_neg h1]
   by_cases h3 : (x.toNat : Int) < (y.toNat : Int)
   ·rw [if_pos h3]
    by_cases h2 : (y.toNat : Int) = (z.toNat : Int)
    ·rw [if_neg (show ¬ (x.toNat : Int) = (z.toNat : Int) by omega), if_pos (show (x.toNat : Int) < (z.toNat : Int) by omega)]
     exact fun _ _ => ⟨by omega, fun _ => by omega⟩
    ·rw [if_neg h2]
     by_cases h4 : (y.toNat : Int) < (z.toNat : Int)
     ·rw [if_neg (show ¬ (x.toNat : Int) = (z.toNat : Int) by omega), if_pos (show (x.toNat : Int) < (z.toNat : Int) by omega)]
      exact fun _ _ => ⟨by omega, fun _ => by omega⟩
     ·rw [if_neg h4]
      intro _ h
      omega
   ·rw [if_neg h3]
    intro h
    omega
theorem cmpLL_trans : ∀ a b c : List S108, cmpLL a b ≤ 0 → cmpLL b c ≤ 0 → cmpLL a c ≤ 0 ∧ (cmpLL a b < 0 ∨ cmpLL b c < 0 → cmpLL a c < 0)
 | [], [], _ => fun _ h => ⟨h, fun h2 => h2.elim (fun h3 => absurd h3 (by simp [cmpLL])) id⟩
 | [], _ :: _, [] => fun _ h => absurd h (by simp [cmpLL])
 | [], _ :: _, _ :: _ => fun _ _ => ⟨by simp [cmpLL], fun _ => by simp [cmpLL]⟩
 | _ :: _, [], _ => fun h => absurd h (by simp [cmpLL])
 | _ :: _, _ :: _, [] => fun _ h => absurd h (by simp [cmpLL])
 | x :: a, y :: b, z :: c => by
  have ih := cmpLL_trans a b c
  have t0 := cmpL_trans (Y x.f0) (Y y.f0) (Y z.f0)
  have t1 := cmpL_trans (Y x.f1) (Y y.f1) (Y z.f1)
  have z0 : cmpL (Y x.f0) (Y y.f0) = 0 → cmpL (Y x.f0) (Y z.f0) = cmpL (Y y.f0) (Y z.f0) := fun h => by rw [cmpL_eq _ _ h]
  have z1 : cmpL (Y x.f1) (Y y.f1) = 0 → cmpL (Y x.f1) (Y z.f1) = cmpL (Y y.f1) (Y z.f1) := fun h => by rw [cmpL_eq _ _ h]
  have y0 : cmpL (Y y.f0) (Y z.f0) = 0 → cmpL (Y x.f0) (Y z.f0) = cmpL (Y x.f0) (Y y.f0) := fun h => by rw [cmpL_eq _ _ h]
  have y1 : cmpL (Y y.f1) (Y z.f1) = 0 → cmpL (Y x.f1) (Y z.f1) = cmpL (Y x.f1) (Y y.f1) := fun h => by rw [cmpL_eq _ _ h]
  simp only [cmpLL]
  generalize cmpL (Y x.f0) (Y y.f0) = p0 at *
  generalize cmpL (Y y.f0) (Y z.f0) = q0 at *
  generalize cmpL (Y x.f0) (Y z.f0) = r0 at *
  generalize cmpL (Y x.f1) (Y y.f1) = p1 at *
  generalize cmpL (Y y.f1) (Y z.f1) = q1 at *
  generalize cmpL (Y x.f1) (Y z.f1) = r1 at *
  generalize cmpLL a b = p2 at *
  generalize cmpLL b c = q2 at *
  generalize cmpLL a c = r2 at *
  by_cases hp0 : p0 = 0 <;> by_cases hq0 : q0 = 0 <;> by_cases hr0 : r0 = 0 <;> by_cases hp1 : p1 = 0 <;> by_cases hq1 : q1 = 0 <;> by_cases hr1 : r1 = 0 <;> simp only [hp0, hq0, hr0, hp1, hq1, hr1, if_true, if_false] <;> omega
/-- Series whose labels rise. -/
def riseS (l : List S83) : Prop := l.Pairwise (fun a b => cmpLL a.f0 b.f0 < 0)
theorem serL_rise : ∀ (l : List S83) p, serL p l = true → riseS l ∧ ∀ q, p = some q → ∀ x ∈ l, cmpLL q x.f0 < 0
 | [], _ => fun _ => ⟨List.Pairwise.nil, fun _ _ x hx => absurd hx List.not_mem_nil⟩
 | x :: xs, p => by
  intro h
  simp only [serL, Bool.and_eq_true] at h
  obtain ⟨i1, i2⟩ := serL_rise xs _ h.2
  refine ⟨List.pairwise_cons.2 ⟨fun y hy => i2 _ rfl y hy, i1⟩, ?_⟩
  intro q hq y hy
  subst hq
  have hb : cmpLL q x.f0 < 0 := of_decide_eq_true h.1.2
  rcases List.mem_cons.1 hy with e | e
  ·rw [e]; exact hb
  ·exact (cmpLL_trans q x.f0 y.f0 (Int.le_of_lt hb) (Int.le_of_lt (i2 _ rfl y e))).2 (.inl hb)
end Go.Proofs.Ytknlgignjbghkaa.U
namespace Go.Proofs.Ytknlgignjbghkaa.U
open Go.RowKit Go.Proofs.Ytknlgignjbghkaa.Pr Go.Proofs.YtknlgignjbghkaaW.PrintWords Go.Proofs.YtknlgignjbghkaaW.PrintLast Go.Proofs.YtknlgignjbghkaaW.PrintMore
set_option linter.unusedVariables false
set_option linter.unusedSimpArgs false
theorem find_loop (l : List S83) (t : List S108) (hf : fitS l) (ht : fitL t) (hs : riseS l) : ∀ d i j, j - i ≤ d → i ≤ j → j ≤ l.length → (∀ m (h : m < l.length), m < i → cmpLL l[m].f0 t < 0) → (∀ m (h : m < l.length), j ≤ m → ¬ cmpLL l[m].f0 t < 0) →
  ∃ r, r ≤ l.length ∧ Ev (fun k => impl_findSeries.l0 l t k i j) r ∧ (∀ m (h : m < l.length), m < r → cmpLL l[m].f0 t < 0) ∧ (∀ m (h : m < l.length), r ≤ m → ¬ cmpLL l[m].f0 t < 0) := by
 have hrd : ∀ (i : Nat) (h : i < l.length), rd_T83 l (i : Int) = l[i] := fun i h => getD_lt h
 have hg := List.pairwise_iff_getElem.1 hs
 intro d
 induction d with
 | zero =>
  intro i j hd hij hj h1 h2
  have e : i = j := by omega
  subst e
  exact ⟨i, hj, ev_step (fun _ => impl_findSeries.l0.eq_2 ..) (ev_neg (by omega) (ev_now _)), h1, h2⟩
 | succ d ih =>
  intro i j hd hij hj h1 h2
  by_cases c : i < j
  ·have hm : (i + j) / 2 < l.length := by omega
   by_cases c2 : cmpLL l[(i + j) / 2].f0 t < 0
   ·obtain ⟨r, r1, r2, r3, r4⟩ := ih ((i + j) / 2 + 1) j (by omega) (by omega) hj (fun m h hmi => by
     by_cases e : m = (i + j) / 2
     ·subst e; exact c2
     ·exact (cmpLL_trans _ _ t (Int.le_of_lt (hg m ((i + j) / 2) h hm (by omega))) (Int.le_of_lt c2)).2 (.inr c2)) h2
    refine ⟨r, r1, ev_step (fun _ => impl_findSeries.l0.eq_2 ..) (ev_pos c ?_), r3, r4⟩
    rw [hrd _ hm]
    exact ev_bind (cmpLL_impl _ _ (hf.2 _ (List.getElem_mem hm)).1 ht) (ev_pos c2 r2)
   ·obtain ⟨r, r1, r2, r3, r4⟩ := ih i ((i + j) / 2) (by omega) (by omega) (by omega) h1 (fun m h hmi => by
     by_cases e : m = (i + j) / 2
     ·subst e; exact c2
     ·intro h3
      have h4 := hg ((i + j) / 2) m hm h (by omega)
      exact c2 ((cmpLL_trans _ _ t (Int.le_of_lt h4) (Int.le_of_lt h3)).2 (.inl h4)))
    refine ⟨r, r1, ev_step (fun _ => impl_findSeries.l0.eq_2 ..) (ev_pos c ?_), r3, r4⟩
    rw [hrd _ hm]
    exact ev_bind (cmpLL_impl _ _ (hf.2 _ (List.getElem_mem hm)).1 ht) (ev_neg c2 r2)
  ·have e : i = j := by omega
   subst e
   exact ⟨i, hj, ev_step (fun _ => impl_findSeries.l0.eq_2 ..) (ev_neg (by omega) (ev_now _)), h1, h2⟩
/-- The labels are some series'. -/
def hasS (l : List S83) (t : List S108) : Bool := l.any (fun x => decide (cmpLL x.f0 t = 0))
theorem find_impl (l : List S83) (t : List S108) (hb : l.length ≤ 4611686018427387904) (hf : fitS l) (ht : fitL t) (hs : riseS l) : ∃ r : Nat, r ≤ l.length ∧ Ev (fun k => impl_findSeries.f k l t) ((r : Int), hasS l t) ∧ (∀ m (h : m < l.length), m < r → cmpLL l[m].f0 t < 0) ∧ (∀ m (h : m < l.length), r ≤ m → ¬ cmpLL l[m].f0 t < 0) := by
 have hrd : ∀ (i : Nat) (h : i < l.length), rd_T83 l (i : Int) = l[i] := fun i h => getD_lt h
 have hg := List.pairwise_iff_getElem.1 hs
 obtain ⟨r, r1, r2, r3, r4⟩ := find_loop l t hf ht hs l.length 0 l.length (by omega) (by omega) (by omega) (fun m h hm => absurd hm (by omega)) (fun m h hm => absurd hm (by omega))
 refine ⟨r, r1, ?_, r3, r4⟩
 unfold impl_findSeries.f impl_findSeries.e
 refine ev_pos hb (ev_bind r2 (ev_ite (fun c => ?_) (fun c => ?_)))
 ·rw [hrd _ c]
  refine ev_bind (cmpLL_impl _ _ (hf.2 _ (List.getElem_mem c)).1 ht) ?_
  rw [show hasS l t = (cmpLL l[r].f0 t == 0) from ?_]
  ·exact ev_now _
  ·rw [Bool.eq_iff_iff]
   unfold hasS
   simp only [List.any_eq_true, decide_eq_true_eq, beq_iff_eq]
   constructor
   ·rintro ⟨x, hx, e⟩
    obtain ⟨m, hm, rfl⟩ := List.getElem_of_mem hx
    have h5 : r ≤ m := Nat.le_of_not_lt (fun h => by have := r3 m hm h; omega)
    by_cases e2 : r = m
    ·subst e2; exact e
    ·have h6 := hg r m c hm (by omega)
     have h7 := (cmpLL_trans _ _ t (Int.le_of_lt h6) (by omega)).2 (.inl h6)
     exact absurd h7 (r4 r c (Nat.le_refl _))
   ·exact fun e => ⟨_, List.getElem_mem c, e⟩
 ·rw [show hasS l t = false from ?_]
  ·exact ev_now _
  ·unfold hasS
   rw [List.any_eq_false]
   intro x hx
   obtain ⟨m, hm, rfl⟩ := List.getElem_of_mem hx
   have := r3 m hm (by omega)
   simp only [decide_eq_true_eq]
   omega
end Go.Proofs.Ytknlgignjbghkaa.U
namespace Go.Proofs.Ytknlgignjbghkaa.U
open Go.RowKit Go.Proofs.Ytknlgignjbghkaa.Pr Go.Proofs.YtknlgignjbghkaaW.PrintWords Go.Proofs.YtknlgignjbghkaaW.PrintLast Go.Proofs.YtknlgignjbghkaaW.PrintMore
set_option linter.unusedVariables false
set_option linter.unusedSimpArgs false
theorem serL_ne : ∀ (l : List S83) p, serL p l = true → ∀ x ∈ l, x.f1.length ≠ 0 := by
 intro l
 induction l with
 | nil => intro _ _ x hx; exact absurd hx List.not_mem_nil
 | cons y ys ih =>
  intro p h x hx
  simp only [serL, Bool.and_eq_true] at h
  rcases List.mem_cons.1 hx with e | e
  ·rw [e]; exact of_decide_eq_true h.1.1.1.2
  ·exact ih _ h.2 x e
theorem ev_ite3 {α : Type} {c : Prop} [d1 : Decidable c] [d2 : Decidable c] {f g : Nat → Option α} {a b : α} (h1 : c → Ev f a) (h2 : ¬ c → Ev g b) : Ev (fun k => if c then f k else g k) (if c then a else b) := by
 by_cases h : c
 ·rw [if_pos h]; exact ev_pos h (h1 h)
 ·rw [if_neg h]; exact ev_neg h (h2 h)
end Go.Proofs.Ytknlgignjbghkaa.U
namespace Go.Proofs.Ytknlgignjbghkaa.U
open Go.RowKit Go.Proofs.Ytknlgignjbghkaa.Pr Go.Proofs.YtknlgignjbghkaaW.PrintWords Go.Proofs.YtknlgignjbghkaaW.PrintLast Go.Proofs.YtknlgignjbghkaaW.PrintMore
set_option linter.unusedVariables false
set_option linter.unusedSimpArgs false
theorem place_spec (l : List S83) (t : List S108) (hf : fitS l) (ht : fitL t) (hs : riseS l) : ∃ r : Nat, r ≤ l.length ∧ Ev (fun k => spec_l7Place.f k l t) ((r : Int), hasS l t) ∧ (∀ m (h : m < l.length), m < r → cmpLL l[m].f0 t < 0) ∧ (∀ m (h : m < l.length), r ≤ m → ¬ cmpLL l[m].f0 t < 0) := by
 have hrd : ∀ (i : Nat) (h : i < l.length), rd_T83 l (i : Int) = l[i] := fun i h => getD_lt h
 have hg := List.pairwise_iff_getElem.1 hs
 have hno : (∀ m (h : m < l.length), ¬ cmpLL l[m].f0 t = 0) → hasS l t = false := by
  intro h
  unfold hasS
  rw [List.any_eq_false]
  intro x hx
  obtain ⟨m, hm, rfl⟩ := List.getElem_of_mem hx
  simp only [decide_eq_true_eq]
  exact h m hm
 refine up_ind l.length (fun i => (∀ m (h : m < l.length), m < i → cmpLL l[m].f0 t < 0) → ∃ r : Nat, r ≤ l.length ∧ Ev (fun k => spec_l7Place.l0 k l t l (l.length : Int) (i : Int)) ((r : Int), hasS l t) ∧ (∀ m (h : m < l.length), m < r → cmpLL l[m].f0 t < 0) ∧ (∀ m (h : m < l.length), r ≤ m → ¬ cmpLL l[m].f0 t < 0)) ?_ ?_ 0 (by omega) (fun m h hm => absurd hm (by omega))
 ·intro h1
  refine ⟨l.length, Nat.le_refl _, ev_step (fun _ => spec_l7Place.l0.eq_2 ..) (ev_neg (by omega) ?_), fun m h _ => h1 m h h, fun m h hm => absurd hm (by omega)⟩
  rw [hno (fun m h => by have := h1 m h h; omega)]
  exact ev_now _
 ·intro i h ih h1
  have hc := cmpLL_spec _ t (hf.2 _ (List.getElem_mem h)).1 ht
  have hge : ¬ cmpLL l[i].f0 t < 0 → ∀ m (h : m < l.length), i ≤ m → ¬ cmpLL l[m].f0 t < 0 := by
   intro hi m hm him h2
   by_cases e : i = m
   ·subst e; exact hi h2
   ·have h3 := hg i m h hm (by omega)
    exact hi ((cmpLL_trans _ _ t (Int.le_of_lt h3) (Int.le_of_lt h2)).2 (.inl h3))
  by_cases c0 : cmpLL l[i].f0 t = 0
  ·refine ⟨i, Nat.le_of_lt h, ev_step (fun _ => spec_l7Place.l0.eq_2 ..) (ev_pos (by omega) (ev_pos (by omega) (ev_pos (by omega) ?_))), h1, hge (by omega)⟩
   rw [hrd i h]
   refine ev_bind hc (ev_pos c0 ?_)
   rw [show hasS l t = true from List.any_eq_true.2 ⟨_, List.getElem_mem h, decide_eq_true c0⟩]
   exact ev_now _
  ·by_cases c1 : cmpLL l[i].f0 t > 0
   ·refine ⟨i, Nat.le_of_lt h, ev_step (fun _ => spec_l7Place.l0.eq_2 ..) (ev_pos (by omega) (ev_pos (by omega) (ev_pos (by omega) ?_))), h1, hge (by omega)⟩
    rw [hrd i h]
    refine ev_bind hc (ev_neg c0 (ev_pos c1 ?_))
    rw [hno (fun m hm e => ?_)]
    ·exact ev_now _
    ·rcases Nat.lt_trichotomy m i with h5 | h5 | h5
     ·have := h1 m hm h5; omega
     ·subst h5; exact c0 e
     ·have h3 := hg i m h hm h5
      have := (cmpLL_trans _ _ t (Int.le_of_lt h3) (by omega)).2 (.inl h3)
      omega
   ·obtain ⟨r, r1, r2, r3, r4⟩ := ih (fun m hm hmi => by
     by_cases e : m = i
     ·subst e; omega
     ·exact h1 m hm (by omega))
    refine ⟨r, r1, ev_step (fun _ => spec_l7Place.l0.eq_2 ..) (ev_pos (by omega) (ev_pos (by omega) (ev_pos (by omega) ?_))), r3, r4⟩
    rw [hrd i h, w64n h hf.1]
    exact ev_bind hc (ev_neg c0 (ev_neg c1 r2))
theorem has_spec (l : List S83) (t : List S108) (hf : fitS l) (ht : fitL t) (hs : riseS l) : Ev (fun k => spec_l9Has.f k l t) (hasS l t) := by
 obtain ⟨r, _, r2, _⟩ := place_spec l t hf ht hs
 unfold spec_l9Has.f
 exact ev_bind r2 (ev_now _)
/-- Each series lies within the block's times. -/
def serIn (f t : Int) : List S83 → Bool
 | [] => true
 | x :: xs => if (rd_T85 x.f1 0).f0 < f then false else if (rd_T85 x.f1 ((x.f1.length - 1 : Nat) : Int)).f0 ≥ t then false else serIn f t xs
theorem serIn_cons (f t : Int) (x : S83) (xs : List S83) : serIn f t (x :: xs) = if (rd_T85 x.f1 0).f0 < f then false else if (rd_T85 x.f1 ((x.f1.length - 1 : Nat) : Int)).f0 ≥ t then false else serIn f t xs := rfl
def stoneAt (p : Option S87) (x : S87) : Bool := match p with
 | none => true
 | some q => if cmpLL q.f0 x.f0 > 0 then false else if cmpLL q.f0 x.f0 = 0 then (if x.f1 ≤ wrap64 (q.f2 + 1) then false else true) else true
def stoneOk (f t : Int) (s : List S83) (p : Option S87) (x : S87) : Bool := if goodL x.f0 = true then (if x.f1 < f then false else if x.f2 ≥ t then false else if x.f1 > x.f2 then false else if hasS s x.f0 = true then stoneAt p x else false) else false
def stonesL (f t : Int) (s : List S83) (p : Option S87) : List S87 → Bool
 | [] => true
 | x :: xs => if stoneOk f t s p x = true then stonesL f t s (some x) xs else false
theorem stoneAt_some (q x : S87) : stoneAt (some q) x = if cmpLL q.f0 x.f0 > 0 then false else if cmpLL q.f0 x.f0 = 0 then (if x.f1 ≤ wrap64 (q.f2 + 1) then false else true) else true := rfl
theorem stoneAt_none (x : S87) : stoneAt none x = true := rfl
theorem stonesL_cons (f t : Int) (s : List S83) (p : Option S87) (x : S87) (xs : List S87) : stonesL f t s p (x :: xs) = if stoneOk f t s p x = true then stonesL f t s (some x) xs else false := rfl
theorem stoneOk_def (f t : Int) (s : List S83) (p : Option S87) (x : S87) : stoneOk f t s p x = if goodL x.f0 = true then (if x.f1 < f then false else if x.f2 ≥ t then false else if x.f1 > x.f2 then false else if hasS s x.f0 = true then stoneAt p x else false) else false := rfl
def fitT (l : List S87) : Prop := l.length ≤ 9223372036854775807 ∧ ∀ x ∈ l, fitL x.f0
def ptT (l : List S87) (i : Nat) : Option S87 := if i = 0 then none else some (rd_T87 l ((i - 1 : Nat) : Int))
def goodBlk (f t v : Int) (s : List S83) (l : List S87) : Bool := if 0 ≤ f ∧ f ≤ 1000000000000 then (if t ≤ f then false else if t > 1000000000001 then false else if v < 1 then false else if v > 9 then false else if goodSer s = true then (if (l.length : Int) > 100 then false else if serIn f t s = true then stonesL f t s none l else false) else false) else false
theorem serIn_impl (l : List S83) (hf : fitS l) (hne : ∀ x ∈ l, x.f1.length ≠ 0) (f t v : Int) (st : List S87) (r : Bool) (hr : Ev (fun k => impl_GoodBlock.l1 k st (st.length : Int) 0 f t v l st) r) : Ev (fun k => impl_GoodBlock.l0 k l (l.length : Int) 0 f t v l st) (if serIn f t l = true then r else false) := by
 obtain ⟨hl, hw⟩ := hf
 have hrd : ∀ (i : Nat) (h : i < l.length), rd_T83 l (i : Int) = l[i] := fun i h => getD_lt h
 refine up_ind l.length (fun i => Ev (fun k => impl_GoodBlock.l0 k l (l.length : Int) (i : Int) f t v l st) (if serIn f t (l.drop i) = true then r else false)) ?_ ?_ 0 (by omega)
 ·rw [List.drop_length]
  exact ev_step (fun _ => impl_GoodBlock.l0.eq_2 ..) (ev_neg (by omega) hr)
 ·intro i h ih
  have wi : wrap64 ((i : Int) + 1) = ((i + 1 : Nat) : Int) := w64n h hl
  have hs := (hw l[i] (List.getElem_mem h)).2
  have hz := hne l[i] (List.getElem_mem h)
  have wm : wrap64 ((l[i].f1.length : Int) - 1) = ((l[i].f1.length - 1 : Nat) : Int) := by rw [w64 (by omega) (by omega)]; omega
  refine ev_step (fun _ => impl_GoodBlock.l0.eq_2 ..) (ev_pos (by omega) (ev_pos (by omega) (ev_pos (by omega) ?_)))
  rw [hrd i h, List.drop_eq_getElem_cons h, wm, wi]
  rw [serIn_cons]
  refine ev_pos (by omega) (ev_ite (fun a => ?_) (fun a => ev_pos (by omega) (ev_pos (by omega) (ev_ite (fun b => ?_) (fun b => ?_)))))
  ·rw [if_pos a, if_neg (by decide)]
   exact ev_now _
  ·rw [if_neg a, if_pos b, if_neg (by decide)]
   exact ev_now _
  ·rw [if_neg a, if_neg b]
   exact ih
theorem stones_impl (l : List S87) (hf : fitT l) (s : List S83) (hsb : s.length ≤ 4611686018427387904) (hfs : fitS s) (hss : riseS s) (f t v : Int) : Ev (fun k => impl_GoodBlock.l1 k l (l.length : Int) 0 f t v s l) (stonesL f t s none l) := by
 obtain ⟨hl, hw⟩ := hf
 have hrd : ∀ (i : Nat) (h : i < l.length), rd_T87 l (i : Int) = l[i] := fun i h => getD_lt h
 refine up_ind l.length (fun i => Ev (fun k => impl_GoodBlock.l1 k l (l.length : Int) (i : Int) f t v s l) (stonesL f t s (ptT l i) (l.drop i))) ?_ ?_ 0 (by omega)
 ·rw [List.drop_length]
  exact ev_step (fun _ => impl_GoodBlock.l1.eq_2 ..) (ev_neg (by omega) (ev_now _))
 ·intro i h ih
  have hp : ptT l (i + 1) = some l[i] := by unfold ptT; rw [if_neg (by omega), Nat.add_sub_cancel, hrd i h]
  rw [hp] at ih
  have wi : wrap64 ((i : Int) + 1) = ((i + 1 : Nat) : Int) := w64n h hl
  have fl := hw l[i] (List.getElem_mem h)
  have jt : Ev (fun k => impl_GoodBlock.j3 k (i : Int) l (l.length : Int) (i : Int) true f t v s l l[i].f0 l[i].f1 l[i].f2) false := ev_step (fun _ => impl_GoodBlock.j3.eq_2 ..) (ev_pos rfl (ev_now _))
  have hq : ∀ (h0 : i ≠ 0), wrap64 ((i : Int) - 1) = ((i - 1 : Nat) : Int) ∧ ptT l i = some l[i - 1] := fun h0 => ⟨by rw [w64 (by omega) (by omega)]; omega, by unfold ptT; rw [if_neg h0, hrd (i - 1) (by omega)]⟩
  have tail : ∀ (g : Nat → Option Bool), g = (fun k => if (i : Int) = 0 then (impl_GoodBlock.l1 k l (l.length : Int) (wrap64 ((i : Int) + 1)) f t v s l) else (if 0 ≤ (wrap64 ((i : Int) - 1)) then (if (wrap64 ((i : Int) - 1)) < (l.length : Int) then ((impl_compare.f k ((rd_T87 l (wrap64 ((i : Int) - 1))).f0) l[i].f0).bind fun t1015 => (if t1015 > 0 then (some false) else (if t1015 = 0 then (if l[i].f1 ≤ (wrap64 (((rd_T87 l (wrap64 ((i : Int) - 1))).f2) + 1)) then (some false) else (impl_GoodBlock.l1 k l (l.length : Int) (wrap64 ((i : Int) + 1)) f t v s l)) else (impl_GoodBlock.l1 k l (l.length : Int) (wrap64 ((i : Int) + 1)) f t v s l)))) else (none)) else (none))) → Ev g (if stoneAt (ptT l i) l[i] = true then stonesL f t s (some l[i]) (l.drop (i + 1)) else false) := by
   intro g hgg
   subst hgg
   rw [wi]
   by_cases hi : i = 0
   ·have : ptT l i = none := by unfold ptT; rw [if_pos hi]
    rw [this, stoneAt_none, if_pos rfl]
    exact ev_pos (by omega) ih
   ·obtain ⟨h1, h2⟩ := hq hi
    rw [h1, h2, hrd (i - 1) (by omega)]
    rw [stoneAt_some]
    refine ev_neg (by omega) (ev_pos (by omega) (ev_pos (by omega) (ev_bind (cmpLL_impl _ _ (hw _ (List.getElem_mem (by omega))) fl) (ev_ite (fun a => ?_) (fun a => ev_ite (fun b => ev_ite (fun c => ?_) (fun c => ?_)) (fun b => ?_))))))
    ·rw [if_pos a, if_neg (by decide)]
     exact ev_now _
    ·rw [if_neg a, if_pos b, if_pos c, if_neg (by decide)]
     exact ev_now _
    ·rw [if_neg a, if_pos b, if_neg c, if_pos rfl]
     exact ih
    ·rw [if_neg a, if_neg b, if_pos rfl]
     exact ih
  refine ev_step (fun _ => impl_GoodBlock.l1.eq_2 ..) (ev_pos (by omega) (ev_pos (by omega) (ev_pos (by omega) ?_)))
  rw [hrd i h, List.drop_eq_getElem_cons h]
  rw [stonesL_cons, stoneOk_def]
  have jf : Ev (fun k => impl_GoodBlock.j3 k (i : Int) l (l.length : Int) (i : Int) false f t v s l l[i].f0 l[i].f1 l[i].f2) (if (if hasS s l[i].f0 = true then stoneAt (ptT l i) l[i] else false) = true then stonesL f t s (some l[i]) (l.drop (i + 1)) else false) := by
   obtain ⟨_, _, e, _⟩ := find_impl s l[i].f0 hsb hfs fl hss
   refine ev_step (fun _ => impl_GoodBlock.j3.eq_2 ..) (ev_neg (by decide) (ev_bind e ?_))
   refine ev_ite (fun a => ?_) (fun a => ?_)
   ·rw [if_pos a]
    exact tail _ rfl
   ·rw [if_neg a, if_neg (by decide)]
    exact ev_now _
  refine ev_bind (goodLabels_impl _ fl) (ev_ite (fun g => ev_ite (fun a => ?_) (fun a => ev_ite (fun b => ?_) (fun b => ?_))) (fun g => ?_))
  ·rw [if_pos g, if_pos a, if_neg (by decide)]
   exact jt
  ·rw [if_pos g, if_neg a, if_pos b, if_neg (by decide)]
   exact jt
  ·rw [if_pos g, if_neg a, if_neg b]
   by_cases c : l[i].f1 > l[i].f2
   ·rw [if_pos c, decide_eq_true c, if_neg (by decide)]
    exact jt
   ·rw [if_neg c, decide_eq_false c]
    exact jf
  ·rw [if_neg g, if_neg (by decide)]
   exact jt
theorem blk_impl (f t v : Int) (s : List S83) (l : List S87) (hs : fitS s) (hl : fitT l) : Ev (fun k => impl_GoodBlock.f k f t v s l) (goodBlk f t v s l) := by
 have no : Ev (fun k => impl_GoodBlock.j0 k true f t v s l) false := ev_step (fun _ => impl_GoodBlock.j0.eq_2 ..) (ev_pos rfl (ev_now _))
 unfold impl_GoodBlock.f goodBlk
 by_cases ht : 0 ≤ f ∧ f ≤ 1000000000000
 ·rw [if_pos ht]
  refine ev_bind (ev_eq ((isTime_yes ht).1)) (ev_pos rfl ?_)
  refine ev_ite (fun a => ?_) (fun a => ev_ite (fun b => ?_) (fun b => ev_ite (fun c => ?_) (fun c => ev_ite (fun d => ?_) (fun d => ev_bind (goodSeries_impl s hs) (ev_ite (fun e => ?_) (fun e => ?_))))))
  ·rw [if_pos a]; exact no
  ·rw [if_neg a, if_pos b]; exact no
  ·rw [if_neg a, if_neg b, if_pos c]; exact no
  ·rw [if_neg a, if_neg b, if_neg c, if_pos d]; exact no
  ·rw [if_neg a, if_neg b, if_neg c, if_neg d, if_pos e]
   have hg : serL none s = true := by unfold goodSer at e; exact (Bool.and_eq_true_iff.1 e).2
   by_cases n : (l.length : Int) > 100
   ·rw [if_pos n, decide_eq_true n]; exact no
   ·rw [if_neg n, decide_eq_false n]
    exact ev_step (fun _ => impl_GoodBlock.j0.eq_2 ..) (ev_neg (by decide) (serIn_impl s hs (serL_ne s none hg) f t v l _ (stones_impl l hl s (by unfold goodSer at e; have := of_decide_eq_true (Bool.and_eq_true_iff.1 e).1; omega) hs (serL_rise s none hg).1 f t v)))
  ·rw [if_neg a, if_neg b, if_neg c, if_neg d, if_neg e]; exact no
 ·rw [if_neg ht]
  exact ev_bind (ev_eq ((isTime_no ht).1)) (ev_neg (by decide) no)
theorem serIn_spec (l : List S83) (hf : fitS l) (hne : ∀ x ∈ l, x.f1.length ≠ 0) (f t v : Int) (st : List S87) (r : Bool) (hr : Ev (fun k => spec_GoodBlock.l1 k st (st.length : Int) 0 f t v l st) r) : Ev (fun k => spec_GoodBlock.l0 k l (l.length : Int) 0 f t v l st) (if serIn f t l = true then r else false) := by
 obtain ⟨hl, hw⟩ := hf
 have hrd : ∀ (i : Nat) (h : i < l.length), rd_T83 l (i : Int) = l[i] := fun i h => getD_lt h
 refine up_ind l.length (fun i => Ev (fun k => spec_GoodBlock.l0 k l (l.length : Int) (i : Int) f t v l st) (if serIn f t (l.drop i) = true then r else false)) ?_ ?_ 0 (by omega)
 ·rw [List.drop_length]
  exact ev_step (fun _ => spec_GoodBlock.l0.eq_2 ..) (ev_neg (by omega) hr)
 ·intro i h ih
  have wi : wrap64 ((i : Int) + 1) = ((i + 1 : Nat) : Int) := w64n h hl
  have hs := (hw l[i] (List.getElem_mem h)).2
  have hz := hne l[i] (List.getElem_mem h)
  have wm : wrap64 ((l[i].f1.length : Int) - 1) = ((l[i].f1.length - 1 : Nat) : Int) := by rw [w64 (by omega) (by omega)]; omega
  refine ev_step (fun _ => spec_GoodBlock.l0.eq_2 ..) (ev_pos (by omega) (ev_pos (by omega) (ev_pos (by omega) ?_)))
  rw [hrd i h, List.drop_eq_getElem_cons h, wm, wi]
  rw [serIn_cons]
  refine ev_pos (by omega) (ev_ite (fun a => ?_) (fun a => ev_pos (by omega) (ev_pos (by omega) (ev_ite (fun b => ?_) (fun b => ?_)))))
  ·rw [if_pos a, if_neg (by decide)]
   exact ev_now _
  ·rw [if_neg a, if_pos b, if_neg (by decide)]
   exact ev_now _
  ·rw [if_neg a, if_neg b]
   exact ih
theorem stones_spec (l : List S87) (hf : fitT l) (s : List S83) (hsb : s.length ≤ 4611686018427387904) (hfs : fitS s) (hss : riseS s) (f t v : Int) : Ev (fun k => spec_GoodBlock.l1 k l (l.length : Int) 0 f t v s l) (stonesL f t s none l) := by
 obtain ⟨hl, hw⟩ := hf
 have hrd : ∀ (i : Nat) (h : i < l.length), rd_T87 l (i : Int) = l[i] := fun i h => getD_lt h
 refine up_ind l.length (fun i => Ev (fun k => spec_GoodBlock.l1 k l (l.length : Int) (i : Int) f t v s l) (stonesL f t s (ptT l i) (l.drop i))) ?_ ?_ 0 (by omega)
 ·rw [List.drop_length]
  exact ev_step (fun _ => spec_GoodBlock.l1.eq_2 ..) (ev_neg (by omega) (ev_now _))
 ·intro i h ih
  have hp : ptT l (i + 1) = some l[i] := by unfold ptT; rw [if_neg (by omega), Nat.add_sub_cancel, hrd i h]
  rw [hp] at ih
  have wi : wrap64 ((i : Int) + 1) = ((i + 1 : Nat) : Int) := w64n h hl
  have fl := hw l[i] (List.getElem_mem h)
  have jt : Ev (fun k => spec_GoodBlock.j3 k (i : Int) l (l.length : Int) (i : Int) true f t v s l l[i].f0 l[i].f1 l[i].f2) false := ev_step (fun _ => spec_GoodBlock.j3.eq_2 ..) (ev_pos rfl (ev_now _))
  have hq : ∀ (h0 : i ≠ 0), wrap64 ((i : Int) - 1) = ((i - 1 : Nat) : Int) ∧ ptT l i = some l[i - 1] := fun h0 => ⟨by rw [w64 (by omega) (by omega)]; omega, by unfold ptT; rw [if_neg h0, hrd (i - 1) (by omega)]⟩
  have tail : ∀ (g : Nat → Option Bool), g = (fun k => if (i : Int) = 0 then (spec_GoodBlock.l1 k l (l.length : Int) (wrap64 ((i : Int) + 1)) f t v s l) else (if 0 ≤ (wrap64 ((i : Int) - 1)) then (if (wrap64 ((i : Int) - 1)) < (l.length : Int) then ((spec_l2Cmp.f k ((rd_T87 l (wrap64 ((i : Int) - 1))).f0) l[i].f0).bind fun t1015 => (if t1015 > 0 then (some false) else (if t1015 = 0 then (if l[i].f1 ≤ (wrap64 (((rd_T87 l (wrap64 ((i : Int) - 1))).f2) + 1)) then (some false) else (spec_GoodBlock.l1 k l (l.length : Int) (wrap64 ((i : Int) + 1)) f t v s l)) else (spec_GoodBlock.l1 k l (l.length : Int) (wrap64 ((i : Int) + 1)) f t v s l)))) else (none)) else (none))) → Ev g (if stoneAt (ptT l i) l[i] = true then stonesL f t s (some l[i]) (l.drop (i + 1)) else false) := by
   intro g hgg
   subst hgg
   rw [wi]
   by_cases hi : i = 0
   ·have : ptT l i = none := by unfold ptT; rw [if_pos hi]
    rw [this, stoneAt_none, if_pos rfl]
    exact ev_pos (by omega) ih
   ·obtain ⟨h1, h2⟩ := hq hi
    rw [h1, h2, hrd (i - 1) (by omega)]
    rw [stoneAt_some]
    refine ev_neg (by omega) (ev_pos (by omega) (ev_pos (by omega) (ev_bind (cmpLL_spec _ _ (hw _ (List.getElem_mem (by omega))) fl) (ev_ite (fun a => ?_) (fun a => ev_ite (fun b => ev_ite (fun c => ?_) (fun c => ?_)) (fun b => ?_))))))
    ·rw [if_pos a, if_neg (by decide)]
     exact ev_now _
    ·rw [if_neg a, if_pos b, if_pos c, if_neg (by decide)]
     exact ev_now _
    ·rw [if_neg a, if_pos b, if_neg c, if_pos rfl]
     exact ih
    ·rw [if_neg a, if_neg b, if_pos rfl]
     exact ih
  refine ev_step (fun _ => spec_GoodBlock.l1.eq_2 ..) (ev_pos (by omega) (ev_pos (by omega) (ev_pos (by omega) ?_)))
  rw [hrd i h, List.drop_eq_getElem_cons h]
  rw [stonesL_cons, stoneOk_def]
  have jf : Ev (fun k => spec_GoodBlock.j3 k (i : Int) l (l.length : Int) (i : Int) false f t v s l l[i].f0 l[i].f1 l[i].f2) (if stoneAt (ptT l i) l[i] = true then stonesL f t s (some l[i]) (l.drop (i + 1)) else false) := ev_step (fun _ => spec_GoodBlock.j3.eq_2 ..) (ev_neg (by decide) (tail _ rfl))
  refine ev_bind (goodLabels_spec _ fl) (ev_ite (fun g => ev_bind (has_spec s _ hfs fl hss) (ev_ite (fun q => ev_ite (fun a => ?_) (fun a => ev_ite (fun b => ?_) (fun b => ?_))) (fun q => ?_))) (fun g => ?_))
  ·rw [if_pos g, if_pos a, if_neg (by decide)]
   exact jt
  ·rw [if_pos g, if_neg a, if_pos b, if_neg (by decide)]
   exact jt
  ·rw [if_pos g, if_neg a, if_neg b]
   by_cases c : l[i].f1 > l[i].f2
   ·rw [if_pos c, decide_eq_true c, if_neg (by decide)]
    exact jt
   ·rw [if_neg c, decide_eq_false c, if_pos q]
    exact jf
  ·rw [if_pos g, if_neg q, show (if l[i].f1 < f then false else if l[i].f2 ≥ t then false else if l[i].f1 > l[i].f2 then false else false) = false from by split <;> (try split) <;> (try split) <;> rfl, if_neg (by decide)]
   exact jt
  ·rw [if_neg g, if_neg (by decide)]
   exact jt
theorem blk_spec (f t v : Int) (s : List S83) (l : List S87) (hs : fitS s) (hl : fitT l) : Ev (fun k => spec_GoodBlock.f k f t v s l) (goodBlk f t v s l) := by
 have no : Ev (fun k => spec_GoodBlock.j0 k true f t v s l) false := ev_step (fun _ => spec_GoodBlock.j0.eq_2 ..) (ev_pos rfl (ev_now _))
 unfold spec_GoodBlock.f goodBlk
 by_cases ht : 0 ≤ f ∧ f ≤ 1000000000000
 ·rw [if_pos ht]
  refine ev_bind (ev_eq ((isTime_yes ht).2)) (ev_pos rfl ?_)
  refine ev_ite (fun a => ?_) (fun a => ev_ite (fun b => ?_) (fun b => ev_ite (fun c => ?_) (fun c => ev_ite (fun d => ?_) (fun d => ev_bind (goodSeries_spec s hs) (ev_ite (fun e => ?_) (fun e => ?_))))))
  ·rw [if_pos a]; exact no
  ·rw [if_neg a, if_pos b]; exact no
  ·rw [if_neg a, if_neg b, if_pos c]; exact no
  ·rw [if_neg a, if_neg b, if_neg c, if_pos d]; exact no
  ·rw [if_neg a, if_neg b, if_neg c, if_neg d, if_pos e]
   have hg : serL none s = true := by unfold goodSer at e; exact (Bool.and_eq_true_iff.1 e).2
   by_cases n : (l.length : Int) > 100
   ·rw [if_pos n, decide_eq_true n]; exact no
   ·rw [if_neg n, decide_eq_false n]
    exact ev_step (fun _ => spec_GoodBlock.j0.eq_2 ..) (ev_neg (by decide) (serIn_spec s hs (serL_ne s none hg) f t v l _ (stones_spec l hl s (by unfold goodSer at e; have := of_decide_eq_true (Bool.and_eq_true_iff.1 e).1; omega) hs (serL_rise s none hg).1 f t v)))
  ·rw [if_neg a, if_neg b, if_neg c, if_neg d, if_neg e]; exact no
 ·rw [if_neg ht]
  exact ev_bind (ev_eq ((isTime_no ht).2)) (ev_neg (by decide) no)
end Go.Proofs.Ytknlgignjbghkaa.U
namespace Go.Proofs.Ytknlgignjbghkaa.U
open Go.RowKit Go.Proofs.Ytknlgignjbghkaa.Pr Go.Proofs.YtknlgignjbghkaaW.PrintWords Go.Proofs.YtknlgignjbghkaaW.PrintLast Go.Proofs.YtknlgignjbghkaaW.PrintMore
set_option linter.unusedVariables false
set_option linter.unusedSimpArgs false
def sm130 (x : S130) : Prop := (x.f0.length ≤ 1048576 ∧ ∀ y ∈ x.f0, sm105 y)
def cv130 (x : S130) : S87 := ⟨x.f0.map cv105, x.f1, x.f2⟩
theorem toStone (x : S130) (hx : sm130 x) : Ev (fun k => laws_toStone.f k x.f0 x.f1 x.f2) (x.f0.map cv105, x.f1, x.f2) := by
 have h0 : (x.f0.length ≤ 1048576 ∧ ∀ y ∈ x.f0, sm105 y) := hx
 unfold laws_toStone.f
 refine ev_bind (toLabelS _ h0) ?_
 exact ev_now _
def se87 (x : S87) : Prop := (x.f0.length ≤ 1048576)
theorem eqStone (x : S87) (hx : se87 x) : Ev (fun k => laws_eqStone.f k x.f0 x.f1 x.f2 x.f0 x.f1 x.f2) true := by
 have h0 := hx
 unfold laws_eqStone.f
 refine ev_bind (eqLabelS _ h0) ?_
 refine ev_pos rfl ?_
 refine ev_pos rfl ?_
 refine ev_pos rfl ?_
 exact ev_now _
def sw130 (x : S130) : Prop := (x.f0.length ≤ maxLen ∧ ∀ y ∈ x.f0, sw105 y)
theorem szStone (x : S130) (c : Int) (h0 : 0 ≤ c) (h1 : c ≤ 1048576) (hw : sw130 x) : ∃ r, Ev (fun k => laws_szStone.f k x.f0 x.f1 x.f2 c) r ∧ r ≤ c ∧ (0 ≤ r → sm130 x) := by
 have w0 := hw
 unfold laws_szStone.f
 obtain ⟨r0, e0, q0, s0⟩ := szLabelS x.f0 c (by omega) (by omega) w0.1 w0.2
 by_cases n0 : r0 < 0
 ·exact ⟨-1, ev_bind e0 (ev_pos n0 (ev_now _)), by omega, fun h => absurd h (by decide)⟩
 ·skip
  exact ⟨_, ev_bind e0 (ev_neg n0 (ev_now _)), by omega, fun _ => s0 (by omega)⟩
end Go.Proofs.Ytknlgignjbghkaa.U
namespace Go.Proofs.Ytknlgignjbghkaa.U
open Go.RowKit Go.Proofs.Ytknlgignjbghkaa.Pr Go.Proofs.YtknlgignjbghkaaW.PrintWords Go.Proofs.YtknlgignjbghkaaW.PrintLast Go.Proofs.YtknlgignjbghkaaW.PrintMore
set_option linter.unusedVariables false
set_option linter.unusedSimpArgs false
theorem toStoneS (l : List (S130)) (hl : (l.length ≤ 1048576 ∧ ∀ y ∈ l, sm130 y)) : Ev (fun k => laws_toStoneS.f k l) (l.map cv130) := by
 obtain ⟨hl, hs⟩ := hl
 unfold laws_toStoneS.f
 repeat (first | (with_reducible refine ev_pos (by first | omega | rfl | decide) ?_) | (with_reducible refine ev_neg (by first | omega | decide) ?_))
 have key := ev_copy (F := fun k y i => laws_toStoneS.l0 k l y i) cv130 l (List.replicate ((l.length : Int) : Int).toNat z87) (by simp) ?step ?done
 case step =>
  intro i h y r hy hr
  refine ev_step (fun _ => laws_toStoneS.l0.eq_2 ..) ?_
  repeat (first | (with_reducible refine ev_pos (by first | omega | rfl | decide) ?_) | (with_reducible refine ev_neg (by first | omega | decide) ?_))
  rw [(show rd_T130 l (i : Int) = l[i] from getD_lt h)]
  refine ev_bind (toStone l[i] (hs _ (List.getElem_mem h))) ?_
  repeat (first | (with_reducible refine ev_pos (by first | omega | rfl | decide) ?_) | (with_reducible refine ev_neg (by first | omega | decide) ?_))
  rw [w64n h (by omega), Int.toNat_natCast]
  exact hr
 case done =>
  intro y hy
  refine ev_step (fun _ => laws_toStoneS.l0.eq_2 ..) ?_
  repeat (first | (with_reducible refine ev_pos (by first | omega | rfl | decide) ?_) | (with_reducible refine ev_neg (by first | omega | decide) ?_))
  exact ev_now _
 exact key
theorem eqStoneS (l : List (S87)) (hl : l.length ≤ 1048576) (hs : ∀ x ∈ l, se87 x) : Ev (fun k => laws_eqStoneS.f k l l) true := by
 unfold laws_eqStoneS.f
 refine ev_pos rfl ?_
 refine up_ind l.length (fun i => Ev (fun k => laws_eqStoneS.l0 k l l (i : Int)) true) ?_ ?_ 0 (by omega)
 ·refine ev_step (fun _ => laws_eqStoneS.l0.eq_2 ..) ?_
  refine ev_neg (by omega) ?_
  exact ev_now _
 ·intro i h ih
  refine ev_step (fun _ => laws_eqStoneS.l0.eq_2 ..) ?_
  repeat (first | (with_reducible refine ev_pos (by first | omega | rfl | decide) ?_) | (with_reducible refine ev_neg (by first | omega | decide) ?_))
  rw [(show rd_T87 l (i : Int) = l[i] from getD_lt h)]
  refine ev_bind (eqStone l[i] (hs _ (List.getElem_mem h))) ?_
  refine ev_pos rfl ?_
  rw [w64n h (by omega)]
  exact ih
theorem szStoneS (l : List (S130)) (c : Int) (h0 : 0 ≤ c) (h1 : c ≤ 1048576) (hl : l.length ≤ maxLen) (hw : ∀ x ∈ l, sw130 x) : ∃ r, Ev (fun k => laws_szStoneS.f k l c) r ∧ r ≤ c ∧ (0 ≤ r → (l.length ≤ 1048576 ∧ ∀ y ∈ l, sm130 y)) := by
 simp only [maxLen] at hl
 unfold laws_szStoneS.f
 rw [w64 (x := c - (l.length : Int)) (by omega) (by omega)]
 by_cases hn : c - (l.length : Int) < 0
 ·exact ⟨-1, ev_pos hn (ev_now _), by omega, fun h => absurd h (by decide)⟩
 ·have key := up_ind l.length (fun i => ∀ c : Int, 0 ≤ c → c ≤ 1048576 → ∃ r, Ev (fun k => laws_szStoneS.l0 k l c (i : Int)) r ∧ r ≤ c ∧ (0 ≤ r → ∀ j (h : j < l.length), i ≤ j → sm130 l[j])) ?d ?s 0 (by omega) (c - (l.length : Int)) (by omega) (by omega)
  case d => exact fun c h0 h1 => ⟨c, ev_step (fun _ => laws_szStoneS.l0.eq_2 ..) (ev_neg (by omega) (ev_now _)), Int.le_refl _, fun _ j h hj => by omega⟩
  case s =>
   intro i h ih c h0 h1
   obtain ⟨r1, e1, hr1, hs1⟩ := szStone l[i] c h0 h1 (hw _ (List.getElem_mem h))
   by_cases hr : r1 < 0
   ·refine ⟨-1, ev_step (fun _ => laws_szStoneS.l0.eq_2 ..) ?_, by omega, fun h => absurd h (by decide)⟩
    repeat (first | (with_reducible refine ev_pos (by first | omega | rfl | decide) ?_) | (with_reducible refine ev_neg (by first | omega | decide) ?_))
    rw [(show rd_T130 l (i : Int) = l[i] from getD_lt h)]
    exact ev_bind e1 (ev_pos hr (ev_now _))
   ·obtain ⟨r, e, hrc, hs⟩ := ih (r1) (by omega) (by omega)
    refine ⟨r, ev_step (fun _ => laws_szStoneS.l0.eq_2 ..) ?_, by omega, fun h2 j hj hij => ?_⟩
    ·repeat (first | (with_reducible refine ev_pos (by first | omega | rfl | decide) ?_) | (with_reducible refine ev_neg (by first | omega | decide) ?_))
     rw [(show rd_T130 l (i : Int) = l[i] from getD_lt h)]
     refine ev_bind e1 (ev_neg hr ?_)
     rw [w64n h (by omega)]
     exact e
    ·by_cases ej : j = i
     ·subst ej
      exact hs1 (by omega)
     ·exact hs h2 j hj (by omega)
  obtain ⟨r, e, hrc, hs⟩ := key
  refine ⟨r, ev_neg hn e, by omega, fun h => ⟨by omega, fun y hy => ?_⟩⟩
  obtain ⟨j, hj, rfl⟩ := List.getElem_of_mem hy
  exact hs h j hj (by omega)
end Go.Proofs.Ytknlgignjbghkaa.U

