/- Plain lemmas over the printed functions, for the law FnExactMatchersText; each theorem states its own conditions. -/
import Derived.Test.YtknlgignjbghkaaDoorPrx0
import Derived.Test.YtknlgignjbghkaaDoorPrxg2cfb1n1
import Derived.Test.YtknlgignjbghkaaDoorPrxg4a3cbn1
import Derived.Test.YtknlgignjbghkaaDoorPrxg6f417n1
import Derived.Test.YtknlgignjbghkaaDoorPrxgd0f04n1
namespace Go.Proofs.YtknlgignjbghkaaDoor.U
open Go.RowKit Go.Proofs.YtknlgignjbghkaaDoor.Pr Go.Proofs.YtknlgignjbghkaaDoorW.PrintWords Go.Proofs.YtknlgignjbghkaaDoorW.PrintLast Go.Proofs.YtknlgignjbghkaaDoorW.PrintMore
set_option linter.unusedVariables false
set_option linter.unusedSimpArgs false
/-! Words for plain proofs over the printed functions: from some number of rounds on; loops that go up; ranges. -/
theorem w64 {x : Int} (h0 : -9223372036854775808 ≤ x) (h1 : x ≤ 9223372036854775807) : wrap64 x = x := by unfold wrap64; omega
theorem w64n {i n : Nat} (h : i < n) (hn : n ≤ 9223372036854775807) : wrap64 ((i : Int) + 1) = ((i + 1 : Nat) : Int) := by unfold wrap64; omega
theorem ev_now {α : Type} (r : α) : Ev (fun _ => some r) r := Ev.now r
theorem ev_eq {α : Type} {g : Option α} {r : α} (h : g = some r) : Ev (fun _ => g) r := ⟨0, fun _ _ => h⟩
theorem ev_pos {α : Type} {c : Prop} [Decidable c] {a b : Nat → Option α} {r : α} (h : c) (e : Ev a r) : Ev (fun k => if c then a k else b k) r := by
 obtain ⟨K, e⟩ := e
 exact ⟨K, fun k hk => (if_pos h).trans (e k hk)⟩
theorem ev_neg {α : Type} {c : Prop} [Decidable c] {a b : Nat → Option α} {r : α} (h : ¬ c) (e : Ev b r) : Ev (fun k => if c then a k else b k) r := by
 obtain ⟨K, e⟩ := e
 exact ⟨K, fun k hk => (if_neg h).trans (e k hk)⟩
theorem ev_ite {α : Type} {c : Prop} [Decidable c] {a b : Nat → Option α} {r : α} (h : c → Ev a r) (h' : ¬ c → Ev b r) : Ev (fun k => if c then a k else b k) r := by
 by_cases hc : c
 ·exact ev_pos hc (h hc)
 ·exact ev_neg hc (h' hc)
theorem ev_bind {α β : Type} {g : Nat → Option α} {f : Nat → α → Option β} {a : α} {r : β} (h : Ev g a) (k : Ev (fun n => f n a) r) : Ev (fun n => (g n).bind (f n)) r := Ev.bind h k
theorem ev_some {α β : Type} {f : Nat → α → Option β} {a : α} {r : β} (k : Ev (fun n => f n a) r) : Ev (fun n => (some a).bind (f n)) r := Ev.bind (Ev.now a) k
theorem ev_step {α : Type} {g f : Nat → Option α} {r : α} (h : ∀ k, g (k + 1) = f k) (k : Ev f r) : Ev g r := Ev.step h k
/-- What holds at the end and goes down a round, holds at each round. -/
theorem up_ind (n : Nat) (Q : Nat → Prop) (done : Q n) (step : ∀ i, i < n → Q (i + 1) → Q i) : ∀ i, i ≤ n → Q i := by
 have key : ∀ d i, i + d = n → Q i := by
  intro d
  induction d with
  | zero =>
   intro i h
   have e : i = n := by omega
   rw [e]
   exact done
  | succ d ih => intro i h; exact step i (by omega) (ih (i + 1) (by omega))
 exact fun i h => key (n - i) i (by omega)
theorem getD_lt {α : Type} {l : List α} {d : α} {i : Nat} (h : i < l.length) : l.getD ((i : Int).toNat) d = l[i] := by
 rw [Int.toNat_natCast, List.getD_eq_getElem?_getD, List.getElem?_eq_getElem h]
 rfl
/-- A loop that writes a row anew, element by element. -/
theorem ev_copy {α β : Type} (F : Nat → List β → Int → Option (List β)) (cv : α → β) (l : List α) (x : List β) (hx : x.length = l.length)
  (step : ∀ (i : Nat) (h : i < l.length) (y r : List β), y.length = l.length → Ev (fun k => F k (y.set i (cv l[i])) ((i + 1 : Nat) : Int)) r → Ev (fun k => F k y (i : Int)) r)
  (done : ∀ y : List β, y.length = l.length → Ev (fun k => F k y (l.length : Int)) y) : Ev (fun k => F k x 0) (l.map cv) := by
 refine up_ind l.length (fun i => ∀ y : List β, y.length = l.length → (∀ j, j < i → y[j]? = (l.map cv)[j]?) → Ev (fun k => F k y (i : Int)) (l.map cv)) ?_ ?_ 0 (by omega) x hx (fun j hj => by omega)
 ·intro y hy h
  have e : y = l.map cv := by
   apply List.ext_getElem?
   intro j
   by_cases hj : j < l.length
   ·exact h j hj
   ·rw [List.getElem?_eq_none (by omega), List.getElem?_eq_none (by simp; omega)]
  have d := done y hy
  rw [e] at d ⊢
  exact d
 ·intro i hi ih y hy h
  refine step i hi y _ hy (ih _ (by simp [hy]) (fun j hj => ?_))
  by_cases e : j = i
  ·subst e
   rw [List.getElem?_set_self (by omega), List.getElem?_map, List.getElem?_eq_getElem hi]
   rfl
  ·rw [List.getElem?_set_ne (Ne.symm e)]
   exact h j (by omega)
end Go.Proofs.YtknlgignjbghkaaDoor.U
namespace Go.Proofs.YtknlgignjbghkaaDoor.U
open Go.RowKit Go.Proofs.YtknlgignjbghkaaDoor.Pr Go.Proofs.YtknlgignjbghkaaDoorW.PrintWords Go.Proofs.YtknlgignjbghkaaDoorW.PrintLast Go.Proofs.YtknlgignjbghkaaDoorW.PrintMore
set_option linter.unusedVariables false
set_option linter.unusedSimpArgs false
/-- A string's bytes. -/
abbrev Y (s : ByteArray) : List UInt8 := s.data.toList
theorem Y_eq {s : ByteArray} : s.toList = Y s := ByteArray.toList_eq s
theorem Y_len (s : ByteArray) : (Y s).length = s.size := Array.length_toList
theorem Y_inj {s t : ByteArray} (h : Y s = Y t) : s = t := by
 cases s
 cases t
 congr
 exact Array.toList_inj.1 h
theorem bt_at {s : ByteArray} {i : Nat} (h : i < s.size) : bt s (i : Int) = (((Y s)[i]'(by rw [Y_len]; exact h)).toNat : Int) := by
 unfold bt
 rw [dif_pos (show ((i : Int)).toNat < s.size from by omega)]
 rfl
theorem Y_drop {s : ByteArray} {i : Nat} (h : i < s.size) : (Y s).drop i = (Y s)[i]'(by rw [Y_len]; exact h) :: (Y s).drop (i + 1) := List.drop_eq_getElem_cons _
theorem Y_drop_end (s : ByteArray) : (Y s).drop s.size = [] := by rw [← Y_len, List.drop_length]
def digC (c : UInt8) : Bool := decide (48 ≤ (c.toNat : Int)) && decide ((c.toNat : Int) ≤ 57)
def letC (c : UInt8) : Bool := decide (97 ≤ (c.toNat : Int)) && decide ((c.toNat : Int) ≤ 122) || decide (65 ≤ (c.toNat : Int)) && decide ((c.toNat : Int) ≤ 90)
def wordC (c : UInt8) : Bool := letC c || digC c || decide ((c.toNat : Int) = 95)
def prC (c : UInt8) : Bool := decide (32 ≤ (c.toNat : Int)) && decide ((c.toNat : Int) ≤ 126)
/-- A name: at most 40 letters, digits and _, no digit first. -/
def nameL (l : List UInt8) : Bool := decide (1 ≤ l.length) && decide (l.length ≤ 40) && !(l.head?.any digC) && l.all wordC
def prL (n : Nat) (l : List UInt8) : Bool := decide (l.length ≤ n) && l.all prC
end Go.Proofs.YtknlgignjbghkaaDoor.U
namespace Go.Proofs.YtknlgignjbghkaaDoor.U
open Go.RowKit Go.Proofs.YtknlgignjbghkaaDoor.Pr Go.Proofs.YtknlgignjbghkaaDoorW.PrintWords Go.Proofs.YtknlgignjbghkaaDoorW.PrintLast Go.Proofs.YtknlgignjbghkaaDoorW.PrintMore
set_option linter.unusedVariables false
set_option linter.unusedSimpArgs false
theorem printed_spec (s : ByteArray) (hs : s.size ≤ 9223372036854775807) : Ev (fun k => spec_l2Printed.f k s) ((Y s).all prC) := by
 refine up_ind s.size (fun i => Ev (fun k => spec_l2Printed.l0 k s (i : Int)) (((Y s).drop i).all prC)) ?_ ?_ 0 (by omega)
 ·rw [Y_drop_end]
  exact ev_step (fun _ => spec_l2Printed.l0.eq_2 ..) (ev_neg (by omega) (ev_now _))
 ·intro i h ih
  refine ev_step (fun _ => spec_l2Printed.l0.eq_2 ..) (ev_pos (by omega) (ev_pos (by omega) ?_))
  rw [bt_at h, Y_drop h, List.all_cons, w64n h hs]
  unfold prC
  refine ev_ite (fun h1 => ?_) (fun h1 => ev_ite (fun h2 => ?_) (fun h2 => ?_))
  ·rw [decide_eq_false (by omega)]
   exact ev_now _
  ·rw [decide_eq_false (show ¬ _ ≤ (126 : Int) from by omega), Bool.and_false, Bool.false_and]
   exact ev_now _
  ·rw [decide_eq_true (by omega), decide_eq_true (by omega)]
   exact ih
theorem printed_impl (s : ByteArray) (hs : s.size ≤ 9223372036854775807) (n : Nat) : Ev (fun k => impl_printed.f k s (n : Int)) (prL n (Y s)) := by
 unfold impl_printed.f prL
 rw [Y_len]
 refine ev_ite (fun h => ?_) (fun h => ?_)
 ·rw [decide_eq_false (by omega)]
  exact ev_now _
 ·rw [decide_eq_true (by omega), Bool.true_and]
  refine up_ind s.size (fun i => Ev (fun k => impl_printed.l0 k s (s.size : Int) (i : Int)) (((Y s).drop i).all prC)) ?_ ?_ 0 (by omega)
  ·rw [Y_drop_end]
   exact ev_step (fun _ => impl_printed.l0.eq_2 ..) (ev_neg (by omega) (ev_now _))
  ·intro i h ih
   refine ev_step (fun _ => impl_printed.l0.eq_2 ..) (ev_pos (by omega) (ev_pos (by omega) (ev_pos (by omega) ?_)))
   rw [bt_at h, Y_drop h, List.all_cons, w64n h hs]
   unfold prC
   refine ev_ite (fun h1 => ?_) (fun h1 => ev_ite (fun h2 => ?_) (fun h2 => ?_))
   ·rw [decide_eq_false (by omega)]
    exact ev_now _
   ·rw [decide_eq_false (show ¬ _ ≤ (126 : Int) from by omega), Bool.and_false, Bool.false_and]
    exact ev_now _
   ·rw [decide_eq_true (by omega), decide_eq_true (by omega)]
    exact ih
end Go.Proofs.YtknlgignjbghkaaDoor.U
namespace Go.Proofs.YtknlgignjbghkaaDoor.U
open Go.RowKit Go.Proofs.YtknlgignjbghkaaDoor.Pr Go.Proofs.YtknlgignjbghkaaDoorW.PrintWords Go.Proofs.YtknlgignjbghkaaDoorW.PrintLast Go.Proofs.YtknlgignjbghkaaDoorW.PrintMore
set_option linter.unusedVariables false
set_option linter.unusedSimpArgs false
theorem digit_impl (c : UInt8) : impl_digitByte.f (c.toNat : Int) = some (digC c) := by
 unfold impl_digitByte.f digC
 by_cases h : (c.toNat : Int) ≥ 48
 ·rw [if_pos h, decide_eq_true (show 48 ≤ (c.toNat : Int) from h), Bool.true_and]
 ·rw [if_neg h, decide_eq_false (show ¬ 48 ≤ (c.toNat : Int) from h), Bool.false_and]
theorem digit_spec (c : UInt8) : spec_l2Digit.f (c.toNat : Int) = some (digC c) := by
 unfold spec_l2Digit.f digC
 by_cases h : (c.toNat : Int) ≥ 48
 ·rw [if_pos h, decide_eq_true (show 48 ≤ (c.toNat : Int) from h), Bool.true_and]
 ·rw [if_neg h, decide_eq_false (show ¬ 48 ≤ (c.toNat : Int) from h), Bool.false_and]
theorem letter_impl (c : UInt8) : impl_letterByte.f (c.toNat : Int) = some (letC c) := by
 unfold impl_letterByte.f letC
 by_cases h : (c.toNat : Int) ≥ 97 <;> by_cases h1 : (c.toNat : Int) ≤ 122 <;> by_cases h2 : (c.toNat : Int) ≥ 65 <;> by_cases h3 : (c.toNat : Int) ≤ 90 <;> simp [h, h1, h2, h3] <;> omega
theorem letter_spec (c : UInt8) : spec_l2Letter.f (c.toNat : Int) = some (letC c) := by
 unfold spec_l2Letter.f letC
 by_cases h : (c.toNat : Int) ≥ 97 <;> by_cases h1 : (c.toNat : Int) ≤ 122 <;> by_cases h2 : (c.toNat : Int) ≥ 65 <;> by_cases h3 : (c.toNat : Int) ≤ 90 <;> simp [h, h1, h2, h3] <;> omega
theorem word_impl (c : UInt8) : impl_wordByte.f (c.toNat : Int) = some (wordC c) := by
 unfold impl_wordByte.f wordC
 rw [letter_impl, digit_impl]
 cases letC c <;> cases digC c <;> simp <;> rfl
theorem name_loop_impl (s : ByteArray) (hs : s.size ≤ 9223372036854775807) : Ev (fun k => impl_isName.l0 k s (s.size : Int) 0) ((Y s).all wordC) := by
 refine up_ind s.size (fun i => Ev (fun k => impl_isName.l0 k s (s.size : Int) (i : Int)) (((Y s).drop i).all wordC)) ?_ ?_ 0 (by omega)
 ·rw [Y_drop_end]
  exact ev_step (fun _ => impl_isName.l0.eq_2 ..) (ev_neg (by omega) (ev_now _))
 ·intro i h ih
  refine ev_step (fun _ => impl_isName.l0.eq_2 ..) (ev_pos (by omega) (ev_pos (by omega) (ev_pos (by omega) ?_)))
  rw [bt_at h, Y_drop h, List.all_cons, w64n h hs]
  refine ev_bind (ev_eq (word_impl _)) (ev_ite (fun h1 => ?_) (fun h1 => ?_))
  ·rw [h1]
   exact ih
  ·rw [Bool.eq_false_iff.2 h1]
   exact ev_now _
theorem name_loop_spec (s : ByteArray) (hs : s.size ≤ 9223372036854775807) : Ev (fun k => spec_l2Name.l0 k s 0) ((Y s).all wordC) := by
 refine up_ind s.size (fun i => Ev (fun k => spec_l2Name.l0 k s (i : Int)) (((Y s).drop i).all wordC)) ?_ ?_ 0 (by omega)
 ·rw [Y_drop_end]
  exact ev_step (fun _ => spec_l2Name.l0.eq_2 ..) (ev_neg (by omega) (ev_now _))
 ·intro i h ih
  refine ev_step (fun _ => spec_l2Name.l0.eq_2 ..) (ev_pos (by omega) (ev_pos (by omega) ?_))
  rw [bt_at h, Y_drop h, List.all_cons, w64n h hs]
  unfold wordC
  refine ev_bind (ev_eq (letter_spec _)) (ev_ite (fun h1 => ?_) (fun h1 => ev_bind (ev_eq (digit_spec _)) (ev_ite (fun h2 => ?_) (fun h2 => ev_ite (fun h3 => ?_) (fun h3 => ?_)))))
  ·rw [h1]
   exact ih
  ·rw [h2, Bool.or_true]
   exact ih
  ·rw [decide_eq_true h3, Bool.or_true]
   exact ih
  ·rw [Bool.eq_false_iff.2 h1, Bool.eq_false_iff.2 h2, decide_eq_false h3]
   exact ev_now _
theorem name_impl (s : ByteArray) (hs : s.size ≤ 9223372036854775807) : Ev (fun k => impl_isName.f k s) (nameL (Y s)) := by
 unfold impl_isName.f nameL
 rw [Y_eq]
 refine ev_ite (fun h => ?_) (fun h => ?_)
 ·rw [h]
  exact ev_step (fun _ => impl_isName.j0.eq_2 ..) (ev_pos rfl (ev_now _))
 ·have hl : 1 ≤ (Y s).length := by
   cases e : Y s with
   | nil => exact absurd e h
   | cons a l => simp
  rw [decide_eq_true hl, Y_len, Bool.true_and]
  rw [Y_len] at hl
  refine ev_ite (fun h1 => ?_) (fun h1 => ev_pos (by omega) ?_)
  ·rw [decide_eq_false (by omega)]
   exact ev_step (fun _ => impl_isName.j0.eq_2 ..) (ev_pos rfl (ev_now _))
  ·rw [decide_eq_true (by omega), Bool.true_and]
   have e0 := bt_at (s := s) (i := 0) (by omega)
   have eh : (Y s).head? = some ((Y s)[0]'(by rw [Y_len]; omega)) := by rw [List.head?_eq_getElem?, List.getElem?_eq_getElem]
   rw [show bt s 0 = bt s ((0 : Nat) : Int) from rfl, e0, eh]
   refine ev_bind (ev_eq (digit_impl _)) (ev_step (fun _ => impl_isName.j0.eq_2 ..) (ev_ite (fun h2 => ?_) (fun h2 => ?_)))
   ·rw [Option.any_some, h2]
    exact ev_now _
   ·rw [Option.any_some, Bool.eq_false_iff.2 h2]
    exact name_loop_impl s hs
theorem name_spec (s : ByteArray) (hs : s.size ≤ 9223372036854775807) : Ev (fun k => spec_l2Name.f k s) (nameL (Y s)) := by
 unfold spec_l2Name.f nameL
 rw [Y_len]
 refine ev_ite (fun h => ?_) (fun h => ?_)
 ·rw [decide_eq_false (by omega)]
  exact ev_step (fun _ => spec_l2Name.j0.eq_2 ..) (ev_pos rfl (ev_now _))
 ·rw [decide_eq_true (by omega), Bool.true_and]
  refine ev_ite (fun h1 => ?_) (fun h1 => ev_pos (by omega) ?_)
  ·rw [decide_eq_false (by omega)]
   exact ev_step (fun _ => spec_l2Name.j0.eq_2 ..) (ev_pos rfl (ev_now _))
  ·rw [decide_eq_true (by omega), Bool.true_and]
   have e0 := bt_at (s := s) (i := 0) (by omega)
   have eh : (Y s).head? = some ((Y s)[0]'(by rw [Y_len]; omega)) := by rw [List.head?_eq_getElem?, List.getElem?_eq_getElem]
   rw [show bt s 0 = bt s ((0 : Nat) : Int) from rfl, e0, eh]
   refine ev_bind (ev_eq (digit_spec _)) (ev_step (fun _ => spec_l2Name.j0.eq_2 ..) (ev_ite (fun h2 => ?_) (fun h2 => ?_)))
   ·rw [Option.any_some, h2]
    exact ev_now _
   ·rw [Option.any_some, Bool.eq_false_iff.2 h2]
    exact name_loop_spec s hs
end Go.Proofs.YtknlgignjbghkaaDoor.U
namespace Go.Proofs.YtknlgignjbghkaaDoor.U
open Go.RowKit Go.Proofs.YtknlgignjbghkaaDoor.Pr Go.Proofs.YtknlgignjbghkaaDoorW.PrintWords Go.Proofs.YtknlgignjbghkaaDoorW.PrintLast Go.Proofs.YtknlgignjbghkaaDoorW.PrintMore
set_option linter.unusedVariables false
set_option linter.unusedSimpArgs false
/-- The text of some bytes. -/
def bs (l : List UInt8) : ByteArray := ⟨l.toArray⟩
theorem Y_bs (l : List UInt8) : Y (bs l) = l := by simp [bs]
theorem bs_size (l : List UInt8) : (bs l).size = l.length := by rw [← Y_len, Y_bs]
theorem Y_app (a b : ByteArray) : Y (a ++ b) = Y a ++ Y b := by simp [ByteArray.data_append]
theorem bs_app (a b : List UInt8) : bs a ++ bs b = bs (a ++ b) := Y_inj (by rw [Y_app, Y_bs, Y_bs, Y_bs])
def ints (l : List UInt8) : List Int := l.map fun c => (c.toNat : Int)
theorem ints_len (l : List UInt8) : (ints l).length = l.length := List.length_map ..
theorem ints_two (l : List UInt8) (c : UInt8) : ints l ++ [92] ++ [(c.toNat : Int)] = ints (l ++ [92, c]) := by simp [ints]
theorem ints_one (l : List UInt8) (c : UInt8) : ints l ++ [(c.toNat : Int)] = ints (l ++ [c]) := by simp [ints]
theorem strOf_ints (l : List UInt8) : strOfNums (ints l) = bs l := by
 unfold strOfNums ints bs
 rw [List.map_map]
 congr 2
 rw [show ((fun n => UInt8.ofNat n.toNat) ∘ fun (c : UInt8) => (c.toNat : Int)) = id from by funext c; simp, List.map_id]
def esc (c : UInt8) : List UInt8 := if (c.toNat : Int) = 34 ∨ (c.toNat : Int) = 92 then [92, c] else [c]
/-- A text in quotes: a quote and a backslash stand behind a backslash. -/
def quoteL (l : List UInt8) : List UInt8 := 34 :: (l.flatMap esc ++ [34])
theorem esc_len (c : UInt8) : (esc c).length ≤ 2 := by unfold esc; split <;> simp
theorem escs_len : ∀ l : List UInt8, (l.flatMap esc).length ≤ 2 * l.length := by
 intro l
 induction l with
 | nil => simp
 | cons c l ih => have := esc_len c; rw [List.flatMap_cons, List.length_append, List.length_cons]; omega
theorem quoteL_len (l : List UInt8) : (quoteL l).length ≤ 2 * l.length + 2 := by
 have := escs_len l
 unfold quoteL
 simp only [List.length_cons, List.length_append, List.length_nil]
 omega
theorem quote_spec (s : ByteArray) (hs : s.size ≤ 1048576) : Ev (fun k => spec_l2Quoted.f k s) (bs (quoteL (Y s))) := by
 unfold spec_l2Quoted.f
 have key := up_ind s.size (fun i => ∀ acc : List UInt8, acc.length ≤ 2 * i + 1 → Ev (fun k => spec_l2Quoted.l0 k s (ints acc) (i : Int)) (bs (acc ++ (((Y s).drop i).flatMap esc ++ [34])))) ?_ ?_ 0 (by omega) [34] (by simp)
 ·exact key
 ·intro acc ha
  rw [Y_drop_end, List.flatMap_nil, List.nil_append]
  refine ev_step (fun _ => spec_l2Quoted.l0.eq_2 ..) (ev_neg (by omega) (ev_pos (by rw [ints_len]; omega) ?_))
  rw [show ints acc ++ [34] = ints (acc ++ [34]) from by simp [ints], strOf_ints]
  exact ev_now _
 ·intro i h ih acc ha
  refine ev_step (fun _ => spec_l2Quoted.l0.eq_2 ..) (ev_pos (by omega) (ev_pos (by omega) ?_))
  rw [bt_at h, Y_drop h, List.flatMap_cons, w64n h (by omega)]
  have two : (((Y s)[i]'(by rw [Y_len]; exact h)).toNat : Int) = 34 ∨ (((Y s)[i]'(by rw [Y_len]; exact h)).toNat : Int) = 92 → Ev (fun k => if (ints acc).length < 140737488355328 then ((some (ints acc ++ [92] : List Int)).bind fun y => (if y.length < 140737488355328 then (spec_l2Quoted.l0 k s (y ++ [(((Y s)[i]'(by rw [Y_len]; exact h)).toNat : Int)]) ((i + 1 : Nat) : Int)) else none)) else none) (bs (acc ++ (esc (Y s)[i] ++ ((Y s).drop (i + 1)).flatMap esc ++ [34]))) := by
   intro hc
   refine ev_pos (by rw [ints_len]; omega) (ev_some (ev_pos (by rw [List.length_append, ints_len, List.length_singleton]; omega) ?_))
   rw [ints_two]
   have := ih (acc ++ [92, (Y s)[i]]) (by rw [List.length_append, List.length_cons, List.length_singleton]; omega)
   rw [show esc _ = _ from if_pos hc]
   simpa only [List.append_assoc] using this
  refine ev_ite (fun h1 => two (Or.inl h1)) (fun h1 => ev_ite (fun h2 => two (Or.inr h2)) (fun h2 => ev_pos (by rw [ints_len]; omega) ?_))
  rw [ints_one]
  have := ih (acc ++ [(Y s)[i]]) (by rw [List.length_append, List.length_singleton]; omega)
  rw [show esc _ = _ from if_neg (by rintro (e | e) <;> contradiction)]
  simpa only [List.append_assoc] using this
theorem quote_impl (s : ByteArray) (hs : s.size ≤ 1048576) : Ev (fun k => impl_quote.f k s) (bs (quoteL (Y s))) := by
 unfold impl_quote.f
 have key := up_ind s.size (fun i => ∀ acc : List UInt8, acc.length ≤ 2 * i + 1 → Ev (fun k => impl_quote.l0 k s (ints acc) (s.size : Int) (i : Int)) (bs (acc ++ (((Y s).drop i).flatMap esc ++ [34])))) ?_ ?_ 0 (by omega) [34] (by simp)
 ·exact key
 ·intro acc ha
  rw [Y_drop_end, List.flatMap_nil, List.nil_append]
  refine ev_step (fun _ => impl_quote.l0.eq_2 ..) (ev_neg (by omega) (ev_pos (by rw [ints_len]; omega) ?_))
  rw [show ints acc ++ [34] = ints (acc ++ [34]) from by simp [ints], strOf_ints]
  exact ev_now _
 ·intro i h ih acc ha
  refine ev_step (fun _ => impl_quote.l0.eq_2 ..) (ev_pos (by omega) (ev_pos (by omega) (ev_pos (by omega) ?_)))
  rw [bt_at h, Y_drop h, List.flatMap_cons, w64n h (by omega)]
  have two : (((Y s)[i]'(by rw [Y_len]; exact h)).toNat : Int) = 34 ∨ (((Y s)[i]'(by rw [Y_len]; exact h)).toNat : Int) = 92 → Ev (fun k => if (ints acc).length < 140737488355328 then ((some (ints acc ++ [92] : List Int)).bind fun y => (if y.length < 140737488355328 then (impl_quote.l0 k s (y ++ [(((Y s)[i]'(by rw [Y_len]; exact h)).toNat : Int)]) (s.size : Int) ((i + 1 : Nat) : Int)) else none)) else none) (bs (acc ++ (esc (Y s)[i] ++ ((Y s).drop (i + 1)).flatMap esc ++ [34]))) := by
   intro hc
   refine ev_pos (by rw [ints_len]; omega) (ev_some (ev_pos (by rw [List.length_append, ints_len, List.length_singleton]; omega) ?_))
   rw [ints_two]
   have := ih (acc ++ [92, (Y s)[i]]) (by rw [List.length_append, List.length_cons, List.length_singleton]; omega)
   rw [show esc _ = _ from if_pos hc]
   simpa only [List.append_assoc] using this
  refine ev_ite (fun h1 => two (Or.inl h1)) (fun h1 => ev_ite (fun h2 => two (Or.inr h2)) (fun h2 => ev_pos (by rw [ints_len]; omega) ?_))
  rw [ints_one]
  have := ih (acc ++ [(Y s)[i]]) (by rw [List.length_append, List.length_singleton]; omega)
  rw [show esc _ = _ from if_neg (by rintro (e | e) <;> contradiction)]
  simpa only [List.append_assoc] using this
end Go.Proofs.YtknlgignjbghkaaDoor.U
namespace Go.Proofs.YtknlgignjbghkaaDoor.U
open Go.RowKit Go.Proofs.YtknlgignjbghkaaDoor.Pr Go.Proofs.YtknlgignjbghkaaDoorW.PrintWords Go.Proofs.YtknlgignjbghkaaDoorW.PrintLast Go.Proofs.YtknlgignjbghkaaDoorW.PrintMore
set_option linter.unusedVariables false
set_option linter.unusedSimpArgs false
/-- What both programs' GoodPattern answer. -/
def patB (s : ByteArray) : Bool := prL 100 (Y s) && (altA s 0 [] []).2
/-- A pattern's alternatives, as codes. -/
def patA (s : ByteArray) : List (List Int) := if prL 100 (Y s) = true then (altA s 0 [] []).1 else []
theorem prL_size {s : ByteArray} {n : Nat} (h : prL n (Y s) = true) : s.size ≤ n := by
 unfold prL at h
 rw [Y_len, Bool.and_eq_true, decide_eq_true_eq] at h
 exact h.1
theorem alt_spec (s : ByteArray) (hs : s.size ≤ 9223372036854775807) : Ev (fun k => spec_l2Alternatives.f k s) (patA s, patB s) := by
 unfold spec_l2Alternatives.f patB patA prL
 rw [Y_len]
 refine ev_ite (fun h => ?_) (fun h => ?_)
 ·rw [decide_eq_false (by omega), Bool.false_and, Bool.false_and, if_neg (by decide)]
  exact ev_now _
 ·rw [decide_eq_true (by omega), Bool.true_and]
  refine ev_bind (printed_spec s hs) (ev_ite (fun h1 => ?_) (fun h1 => ?_))
  ·rw [h1, Bool.true_and, if_pos rfl]
   exact ev_now _
  ·rw [Bool.eq_false_iff.2 h1, Bool.false_and, if_neg (by decide)]
   exact ev_now _
theorem alt_impl (s : ByteArray) (hs : s.size ≤ 9223372036854775807) : Ev (fun k => impl_alternatives.f k s) ((patA s).map (List.map altP), patB s) := by
 unfold impl_alternatives.f patB patA
 refine ev_bind (printed_impl s hs 100) (ev_ite (fun h1 => ?_) (fun h1 => ?_))
 ·have h2 := prL_size h1
  rw [h1, Bool.true_and, if_pos rfl]
  exact ev_pos (by omega) (ev_now _)
 ·rw [Bool.eq_false_iff.2 h1, Bool.false_and, if_neg (by decide)]
  exact ev_now _
theorem pat_spec (s : ByteArray) (hs : s.size ≤ 9223372036854775807) : Ev (fun k => spec_GoodPattern.f k s) (patB s) := by
 unfold spec_GoodPattern.f
 exact ev_bind (alt_spec s hs) (ev_now _)
theorem pat_impl (s : ByteArray) (hs : s.size ≤ 9223372036854775807) : Ev (fun k => impl_GoodPattern.f k s) (patB s) := by
 unfold impl_GoodPattern.f
 exact ev_bind (alt_impl s hs) (ev_now _)
end Go.Proofs.YtknlgignjbghkaaDoor.U
namespace Go.Proofs.YtknlgignjbghkaaDoor.U
open Go.RowKit Go.Proofs.YtknlgignjbghkaaDoor.Pr Go.Proofs.YtknlgignjbghkaaDoorW.PrintWords Go.Proofs.YtknlgignjbghkaaDoorW.PrintLast Go.Proofs.YtknlgignjbghkaaDoorW.PrintMore
set_option linter.unusedVariables false
set_option linter.unusedSimpArgs false
theorem any_all_Matcher {α : Type} (P : Nat → α → Option Bool) (p : α → Bool) : ∀ l : List α, (∀ x ∈ l, Ev (fun k => P k x) (p x)) → ∃ K, ∀ k, K ≤ k → ∀ x ∈ l, P k x = some (p x) := by
 intro l
 induction l with
 | nil => intro _; exact ⟨0, fun _ _ _ h => by cases h⟩
 | cons y l ih =>
  intro h
  obtain ⟨K, h1⟩ := ih (fun x hx => h x (List.mem_cons_of_mem _ hx))
  obtain ⟨K', h2⟩ := h y (List.mem_cons_self ..)
  refine ⟨max K K', fun k hk x hx => ?_⟩
  rcases List.mem_cons.1 hx with rfl | hx
  ·exact h2 k (by omega)
  ·exact h1 k (by omega) x hx
theorem any_at_Matcher (P : S46 → Option Bool) (p : S46 → Bool) (l : List S46) (hl : l.length ≤ 9223372036854775807) (h : ∀ x ∈ l, P x = some (p x)) : ∀ (d k i : Nat), i + d = l.length → d < k → ∃ r, impl_Matcher_70.l0 P l k (i : Int) = some r ∧ decide (0 ≤ r) = (l.drop i).any p := by
 have hrd : ∀ (i : Nat) (h : i < l.length), rd_T46 l (i : Int) = l[i] := fun i h => getD_lt h
 intro d
 induction d with
 | zero =>
  intro k i h1 h2
  obtain ⟨k, rfl⟩ : ∃ m, k = m + 1 := ⟨k - 1, by omega⟩
  simp only [impl_Matcher_70.l0]
  rw [if_neg (by omega), List.drop_eq_nil_of_le (by omega), List.any_nil]
  exact ⟨-1, rfl, rfl⟩
 | succ d ih =>
  intro k i h1 h2
  obtain ⟨k, rfl⟩ : ∃ m, k = m + 1 := ⟨k - 1, by omega⟩
  have hi : i < l.length := by omega
  have hp : P (⟨l[i].f0, l[i].f1, l[i].f2⟩ : S46) = some (p l[i]) := h l[i] (List.getElem_mem hi)
  simp only [impl_Matcher_70.l0]
  rw [if_pos (by omega), if_pos (by omega), hrd i hi, hp, Option.bind_some, List.drop_eq_getElem_cons hi, List.any_cons, w64n hi (by omega)]
  by_cases hq : p l[i] = true
  ·rw [if_pos hq, hq, Bool.true_or]
   exact ⟨i, rfl, decide_eq_true (by omega)⟩
  ·rw [if_neg hq, Bool.eq_false_iff.2 hq, Bool.false_or]
   exact ih k (i + 1) (by omega) (by omega)
theorem any_Matcher (P : Nat → S46 → Option Bool) (p : S46 → Bool) (l : List S46) (hl : l.length ≤ 9223372036854775807) (h : ∀ x ∈ l, Ev (fun k => P k x) (p x)) : Ev (fun k => impl_Matcher_44.f k (P k) l) (l.any p) := by
 obtain ⟨K, hK⟩ := any_all_Matcher P p l h
 refine ⟨max K (l.length + 1), fun k hk => ?_⟩
 obtain ⟨r, h1, h2⟩ := any_at_Matcher (P k) p l hl (hK k (by omega)) l.length k 0 (by omega) (by omega)
 have h3 : impl_Matcher_70.f k (P k) l = some r := h1
 show ((impl_Matcher_70.f k (P k) l).bind fun j => some (decide (0 ≤ j))) = some (l.any p)
 rw [h3, Option.bind_some, h2]
 rfl
end Go.Proofs.YtknlgignjbghkaaDoor.U
namespace Go.Proofs.YtknlgignjbghkaaDoor.U
open Go.RowKit Go.Proofs.YtknlgignjbghkaaDoor.Pr Go.Proofs.YtknlgignjbghkaaDoorW.PrintWords Go.Proofs.YtknlgignjbghkaaDoorW.PrintLast Go.Proofs.YtknlgignjbghkaaDoorW.PrintMore
set_option linter.unusedVariables false
set_option linter.unusedSimpArgs false
def sm44 (x : S44) : Prop := x.f0.size ≤ 1048576 ∧ x.f2.size ≤ 1048576
def cv44 (x : S44) : S46 := ⟨x.f0, x.f1, x.f2⟩
theorem toMatcher (x : S44) (hx : sm44 x) : Ev (fun _ => laws_toMatcher.f x.f0 x.f1 x.f2) (x.f0, x.f1, x.f2) := by
 obtain ⟨h0, h2⟩ := hx
 unfold laws_toMatcher.f
 exact ev_now _
theorem eqMatcher (x : S46) : Ev (fun _ => laws_eqMatcher.f x.f0 x.f1 x.f2 x.f0 x.f1 x.f2) true := ev_eq (by simp [laws_eqMatcher.f])
def sw44 (x : S44) : Prop := (x.f0.size ≤ maxLen) ∧ (x.f2.size ≤ maxLen)
theorem szMatcher (x : S44) (c : Int) (h0 : 0 ≤ c) (h1 : c ≤ 1048576) (hw : sw44 x) : ∃ r, Ev (fun _ => laws_szMatcher.f x.f0 x.f1 x.f2 c) r ∧ r ≤ c ∧ (0 ≤ r → sm44 x) := by
 obtain ⟨w0, w2⟩ := hw
 unfold laws_szMatcher.f
 simp only [maxLen] at w0
 rw [w64 (x := c - (x.f0.size : Int)) (by omega) (by omega)]
 by_cases n0 : c - (x.f0.size : Int) < 0
 ·exact ⟨-1, ev_pos n0 (ev_now _), by omega, fun h => absurd h (by decide)⟩
 ·skip
  simp only [maxLen] at w2
  rw [w64 (x := (c - (x.f0.size : Int)) - (x.f2.size : Int)) (by omega) (by omega)]
  by_cases n2 : (c - (x.f0.size : Int)) - (x.f2.size : Int) < 0
  ·exact ⟨-1, ev_neg n0 (ev_pos n2 (ev_now _)), by omega, fun h => absurd h (by decide)⟩
  ·skip
   exact ⟨_, ev_neg n0 (ev_neg n2 (ev_now _)), by omega, fun _ => ⟨by omega, by omega⟩⟩
end Go.Proofs.YtknlgignjbghkaaDoor.U
namespace Go.Proofs.YtknlgignjbghkaaDoor.U
open Go.RowKit Go.Proofs.YtknlgignjbghkaaDoor.Pr Go.Proofs.YtknlgignjbghkaaDoorW.PrintWords Go.Proofs.YtknlgignjbghkaaDoorW.PrintLast Go.Proofs.YtknlgignjbghkaaDoorW.PrintMore
set_option linter.unusedVariables false
set_option linter.unusedSimpArgs false
end Go.Proofs.YtknlgignjbghkaaDoor.U
namespace Go.Proofs.YtknlgignjbghkaaDoor.U
open Go.RowKit Go.Proofs.YtknlgignjbghkaaDoor.Pr Go.Proofs.YtknlgignjbghkaaDoorW.PrintWords Go.Proofs.YtknlgignjbghkaaDoorW.PrintLast Go.Proofs.YtknlgignjbghkaaDoorW.PrintMore
set_option linter.unusedVariables false
set_option linter.unusedSimpArgs false
theorem toMatcherS (l : List (S44)) (hl : (l.length ≤ 1048576 ∧ ∀ y ∈ l, sm44 y)) : Ev (fun k => laws_toMatcherS.f k l) (l.map cv44) := by
 obtain ⟨hl, hs⟩ := hl
 unfold laws_toMatcherS.f
 repeat (first | (with_reducible refine ev_pos (by first | omega | rfl | decide) ?_) | (with_reducible refine ev_neg (by first | omega | decide) ?_))
 have key := ev_copy (F := fun k y i => laws_toMatcherS.l0 k l y i) cv44 l (List.replicate ((l.length : Int) : Int).toNat z46) (by simp) ?step ?done
 case step =>
  intro i h y r hy hr
  refine ev_step (fun _ => laws_toMatcherS.l0.eq_2 ..) ?_
  repeat (first | (with_reducible refine ev_pos (by first | omega | rfl | decide) ?_) | (with_reducible refine ev_neg (by first | omega | decide) ?_))
  rw [(show rd_T44 l (i : Int) = l[i] from getD_lt h)]
  refine ev_bind (toMatcher l[i] (hs _ (List.getElem_mem h))) ?_
  repeat (first | (with_reducible refine ev_pos (by first | omega | rfl | decide) ?_) | (with_reducible refine ev_neg (by first | omega | decide) ?_))
  rw [w64n h (by omega), Int.toNat_natCast]
  exact hr
 case done =>
  intro y hy
  refine ev_step (fun _ => laws_toMatcherS.l0.eq_2 ..) ?_
  repeat (first | (with_reducible refine ev_pos (by first | omega | rfl | decide) ?_) | (with_reducible refine ev_neg (by first | omega | decide) ?_))
  exact ev_now _
 exact key
theorem eqMatcherS (l : List (S46)) (hl : l.length ≤ 1048576) : Ev (fun k => laws_eqMatcherS.f k l l) true := by
 unfold laws_eqMatcherS.f
 refine ev_pos rfl ?_
 refine up_ind l.length (fun i => Ev (fun k => laws_eqMatcherS.l0 k l l (i : Int)) true) ?_ ?_ 0 (by omega)
 ·refine ev_step (fun _ => laws_eqMatcherS.l0.eq_2 ..) ?_
  refine ev_neg (by omega) ?_
  exact ev_now _
 ·intro i h ih
  refine ev_step (fun _ => laws_eqMatcherS.l0.eq_2 ..) ?_
  repeat (first | (with_reducible refine ev_pos (by first | omega | rfl | decide) ?_) | (with_reducible refine ev_neg (by first | omega | decide) ?_))
  refine ev_bind (eqMatcher _) ?_
  refine ev_pos rfl ?_
  rw [w64n h (by omega)]
  exact ih
theorem szMatcherS (l : List (S44)) (c : Int) (h0 : 0 ≤ c) (h1 : c ≤ 1048576) (hl : l.length ≤ maxLen) (hw : ∀ x ∈ l, sw44 x) : ∃ r, Ev (fun k => laws_szMatcherS.f k l c) r ∧ r ≤ c ∧ (0 ≤ r → (l.length ≤ 1048576 ∧ ∀ y ∈ l, sm44 y)) := by
 simp only [maxLen] at hl
 unfold laws_szMatcherS.f
 rw [w64 (x := c - (l.length : Int)) (by omega) (by omega)]
 by_cases hn : c - (l.length : Int) < 0
 ·exact ⟨-1, ev_pos hn (ev_now _), by omega, fun h => absurd h (by decide)⟩
 ·have key := up_ind l.length (fun i => ∀ c : Int, 0 ≤ c → c ≤ 1048576 → ∃ r, Ev (fun k => laws_szMatcherS.l0 k l c (i : Int)) r ∧ r ≤ c ∧ (0 ≤ r → ∀ j (h : j < l.length), i ≤ j → sm44 l[j])) ?d ?s 0 (by omega) (c - (l.length : Int)) (by omega) (by omega)
  case d => exact fun c h0 h1 => ⟨c, ev_step (fun _ => laws_szMatcherS.l0.eq_2 ..) (ev_neg (by omega) (ev_now _)), Int.le_refl _, fun _ j h hj => by omega⟩
  case s =>
   intro i h ih c h0 h1
   obtain ⟨r1, e1, hr1, hs1⟩ := szMatcher l[i] c h0 h1 (hw _ (List.getElem_mem h))
   by_cases hr : r1 < 0
   ·refine ⟨-1, ev_step (fun _ => laws_szMatcherS.l0.eq_2 ..) ?_, by omega, fun h => absurd h (by decide)⟩
    repeat (first | (with_reducible refine ev_pos (by first | omega | rfl | decide) ?_) | (with_reducible refine ev_neg (by first | omega | decide) ?_))
    rw [(show rd_T44 l (i : Int) = l[i] from getD_lt h)]
    exact ev_bind e1 (ev_pos hr (ev_now _))
   ·obtain ⟨r, e, hrc, hs⟩ := ih (r1) (by omega) (by omega)
    refine ⟨r, ev_step (fun _ => laws_szMatcherS.l0.eq_2 ..) ?_, by omega, fun h2 j hj hij => ?_⟩
    ·repeat (first | (with_reducible refine ev_pos (by first | omega | rfl | decide) ?_) | (with_reducible refine ev_neg (by first | omega | decide) ?_))
     rw [(show rd_T44 l (i : Int) = l[i] from getD_lt h)]
     refine ev_bind e1 (ev_neg hr ?_)
     rw [w64n h (by omega)]
     exact e
    ·by_cases ej : j = i
     ·subst ej
      exact hs1 (by omega)
     ·exact hs h2 j hj (by omega)
  obtain ⟨r, e, hrc, hs⟩ := key
  refine ⟨r, ev_neg hn e, by omega, fun h => ⟨by omega, fun y hy => ?_⟩⟩
  obtain ⟨j, hj, rfl⟩ := List.getElem_of_mem hy
  exact hs h j hj (by omega)
end Go.Proofs.YtknlgignjbghkaaDoor.U
namespace Go.Proofs.YtknlgignjbghkaaDoor.U
open Go.RowKit Go.Proofs.YtknlgignjbghkaaDoor.Pr Go.Proofs.YtknlgignjbghkaaDoorW.PrintWords Go.Proofs.YtknlgignjbghkaaDoorW.PrintLast Go.Proofs.YtknlgignjbghkaaDoorW.PrintMore
set_option linter.unusedVariables false
set_option linter.unusedSimpArgs false
/-- What both programs' goodMatcher answer. -/
def matchB (x : S46) : Bool := nameL (Y x.f0) && (decide (1 ≤ x.f1) && (decide (x.f1 ≤ 4) && (prL 100 (Y x.f2) && (decide (x.f1 < 3) || patB x.f2))))
def fitM (l : List S46) : Prop := ∀ x ∈ l, x.f0.size ≤ 9223372036854775807 ∧ x.f2.size ≤ 9223372036854775807
def matchesB (l : List S46) : Bool := decide (l.length ≤ 10) && l.all matchB
theorem matcher_impl (x : S46) (h0 : x.f0.size ≤ 9223372036854775807) (h2 : x.f2.size ≤ 9223372036854775807) : Ev (fun k => impl_goodMatcher.f k x.f0 x.f1 x.f2) (matchB x) := by
 unfold impl_goodMatcher.f matchB
 refine ev_bind (name_impl _ h0) (ev_ite (fun h1 => ?_) (fun h1 => ?_))
 ·rw [h1, Bool.true_and]
  refine ev_ite (fun h3 => ?_) (fun h3 => ev_ite (fun h4 => ?_) (fun h4 => ?_))
  ·rw [decide_eq_false (show ¬ 1 ≤ x.f1 by omega), Bool.false_and]; exact ev_now _
  ·rw [decide_eq_false (show ¬ x.f1 ≤ 4 by omega), Bool.false_and, Bool.and_false]; exact ev_now _
  ·rw [decide_eq_true (show 1 ≤ x.f1 by omega), decide_eq_true (show x.f1 ≤ 4 by omega), Bool.true_and, Bool.true_and]
   refine ev_bind (printed_impl _ h2 100) (ev_ite (fun h5 => ?_) (fun h5 => ?_))
   ·rw [h5, Bool.true_and]
    refine ev_ite (fun h6 => ?_) (fun h6 => ?_)
    ·rw [decide_eq_true h6, Bool.true_or]; exact ev_now _
    ·rw [decide_eq_false h6, Bool.false_or]; exact ev_bind (pat_impl _ h2) (ev_now _)
   ·rw [Bool.eq_false_iff.2 h5, Bool.false_and]; exact ev_now _
 ·rw [Bool.eq_false_iff.2 h1, Bool.false_and]; exact ev_now _
theorem goodMatchers_impl (l : List S46) (hl : l.length ≤ 9223372036854775807) (hf : fitM l) : Ev (fun k => impl_GoodMatchers.f k l) (matchesB l) := by
 unfold impl_GoodMatchers.f matchesB
 refine ev_ite (fun h => ?_) (fun h => ?_)
 ·rw [decide_eq_true (show l.length ≤ 10 by omega), Bool.true_and]
  have h1 := any_Matcher (fun k x => (impl_goodMatcher.f k x.f0 x.f1 x.f2).bind fun b => some (!b)) (fun x => !(matchB x)) l hl (fun x hx => ev_bind (matcher_impl x (hf x hx).1 (hf x hx).2) (ev_now _))
  rw [show l.all matchB = !(l.any fun x => !(matchB x)) from by rw [List.not_any_eq_all_not]; simp]
  exact ev_bind h1 (ev_now _)
 ·rw [decide_eq_false (show ¬ l.length ≤ 10 by omega), Bool.false_and]; exact ev_now _
theorem goodMatchers_spec (l : List S46) (hl : l.length ≤ 9223372036854775807) (hf : fitM l) : Ev (fun k => spec_GoodMatchers.f k l) (matchesB l) := by
 unfold spec_GoodMatchers.f matchesB
 have hrd : ∀ (i : Nat) (h : i < l.length), rd_T46 l (i : Int) = l[i] := fun i h => getD_lt h
 refine ev_ite (fun h => ?_) (fun h => ?_)
 ·rw [decide_eq_false (show ¬ l.length ≤ 10 by omega), Bool.false_and]; exact ev_now _
 ·rw [decide_eq_true (show l.length ≤ 10 by omega), Bool.true_and]
  refine up_ind l.length (fun i => Ev (fun k => spec_GoodMatchers.l0 k l (l.length : Int) (i : Int)) ((l.drop i).all matchB)) ?_ ?_ 0 (by omega)
  ·rw [List.drop_length]
   exact ev_step (fun _ => spec_GoodMatchers.l0.eq_2 ..) (ev_neg (by omega) (ev_now _))
  ·intro i h ih
   obtain ⟨h0, h2⟩ := hf l[i] (List.getElem_mem h)
   refine ev_step (fun _ => spec_GoodMatchers.l0.eq_2 ..) (ev_pos (by omega) (ev_pos (by omega) (ev_pos (by omega) ?_)))
   rw [hrd i h, List.drop_eq_getElem_cons h, List.all_cons, w64n h (by omega)]
   unfold matchB
   refine ev_bind (name_spec _ h0) (ev_ite (fun h1 => ?_) (fun h1 => ?_))
   ·rw [h1, Bool.true_and]
    refine ev_ite (fun h3 => ?_) (fun h3 => ev_ite (fun h4 => ?_) (fun h4 => ev_ite (fun h5 => ?_) (fun h5 => ?_)))
    ·rw [decide_eq_false (show ¬ 1 ≤ l[i].f1 by omega), Bool.false_and, Bool.false_and]; exact ev_now _
    ·rw [decide_eq_false (show ¬ l[i].f1 ≤ 4 by omega), Bool.false_and, Bool.and_false, Bool.false_and]; exact ev_now _
    ·unfold prL
     rw [Y_len, decide_eq_false (show ¬ l[i].f2.size ≤ 100 by omega), Bool.false_and, Bool.false_and, Bool.and_false, Bool.and_false, Bool.false_and]; exact ev_now _
    ·rw [decide_eq_true (show 1 ≤ l[i].f1 by omega), decide_eq_true (show l[i].f1 ≤ 4 by omega), Bool.true_and, Bool.true_and]
     unfold prL
     rw [Y_len, decide_eq_true (show l[i].f2.size ≤ 100 by omega), Bool.true_and]
     refine ev_bind (printed_spec _ h2) (ev_ite (fun h6 => ?_) (fun h6 => ?_))
     ·rw [h6, Bool.true_and]
      refine ev_ite (fun h7 => ?_) (fun h7 => ?_)
      ·rw [decide_eq_false (show ¬ l[i].f1 < 3 by omega), Bool.false_or]
       refine ev_bind (pat_spec _ h2) (ev_ite (fun h8 => ?_) (fun h8 => ?_))
       ·rw [h8, Bool.true_and]; exact ih
       ·rw [Bool.eq_false_iff.2 h8, Bool.false_and]; exact ev_now _
      ·rw [decide_eq_true (show l[i].f1 < 3 by omega), Bool.true_or, Bool.true_and]; exact ih
     ·rw [Bool.eq_false_iff.2 h6, Bool.false_and, Bool.false_and]; exact ev_now _
   ·rw [Bool.eq_false_iff.2 h1, Bool.false_and, Bool.false_and]; exact ev_now _
theorem fitM_cv (l : List S44) (h : l.length ≤ 1048576 ∧ ∀ x ∈ l, sm44 x) : fitM (l.map cv44) := by
 intro x hx
 obtain ⟨y, hy, rfl⟩ := List.mem_map.1 hx
 obtain ⟨h1, h2⟩ := h.2 y hy
 exact ⟨by show y.f0.size ≤ _; omega, by show y.f2.size ≤ _; omega⟩
end Go.Proofs.YtknlgignjbghkaaDoor.U
namespace Go.Proofs.YtknlgignjbghkaaDoor.U
open Go.RowKit Go.Proofs.YtknlgignjbghkaaDoor.Pr Go.Proofs.YtknlgignjbghkaaDoorW.PrintWords Go.Proofs.YtknlgignjbghkaaDoorW.PrintLast Go.Proofs.YtknlgignjbghkaaDoorW.PrintMore
set_option linter.unusedVariables false
set_option linter.unusedSimpArgs false
abbrev SIGNS : List ByteArray := [(⟨#[]⟩ : ByteArray), (⟨#[61]⟩ : ByteArray), (⟨#[33, 61]⟩ : ByteArray), (⟨#[61, 126]⟩ : ByteArray), (⟨#[33, 126]⟩ : ByteArray)]
def sg (x : S46) : ByteArray := rdOf ByteArray.empty SIGNS x.f1
theorem sg_size (x : S46) (h : 1 ≤ x.f1 ∧ x.f1 ≤ 4) : (sg x).size ≤ 2 := by
 unfold sg
 rcases (by omega : x.f1 = 1 ∨ x.f1 = 2 ∨ x.f1 = 3 ∨ x.f1 = 4) with e | e | e | e <;> rw [e] <;> decide
def goodMx (x : S46) : Prop := x.f0.size ≤ 40 ∧ x.f2.size ≤ 100 ∧ 1 ≤ x.f1 ∧ x.f1 ≤ 4
theorem matches_all {l : List S46} (h : matchesB l = true) : l.length ≤ 10 ∧ ∀ x ∈ l, goodMx x := by
 unfold matchesB at h
 rw [Bool.and_eq_true, decide_eq_true_eq, List.all_eq_true] at h
 refine ⟨h.1, fun x hx => ?_⟩
 have h1 := h.2 x hx
 simp only [matchB, nameL, prL, Bool.and_eq_true, decide_eq_true_eq, Y_len] at h1
 exact ⟨h1.1.1.1.2, h1.2.2.2.1.1, h1.2.1, h1.2.2.1⟩
def itemM (x : S46) : List UInt8 := Y x.f0 ++ (Y (sg x) ++ quoteL (Y x.f2))
theorem itemM_len (x : S46) (h : goodMx x) : (itemM x).length ≤ 300 := by
 obtain ⟨h0, h2, h1⟩ := h
 have := quoteL_len (Y x.f2)
 have h3 := sg_size x h1
 unfold itemM
 rw [List.length_append, List.length_append, Y_len, Y_len]
 rw [Y_len] at this
 omega
theorem itemM_eq (x : S46) : x.f0 ++ sg x ++ bs (quoteL (Y x.f2)) = bs (itemM x) := Y_inj (by rw [Y_app, Y_app, Y_bs, Y_bs]; unfold itemM; rw [List.append_assoc])
def tailM : Bool → List S46 → List UInt8
 | _, [] => [125]
 | b, x :: xs => (if b = true then [] else [44]) ++ (itemM x ++ tailM false xs)
/-- Matchers' text. -/
def textM (l : List S46) : List UInt8 := 123 :: tailM true l
theorem textM_spec_l (l : List S46) (hn : l.length ≤ 10) (hb : ∀ x ∈ l, goodMx x) : Ev (fun k => spec_l2MatchersText.f k l) (bs (textM l)) := by
 unfold spec_l2MatchersText.f
 have hrd : ∀ (i : Nat) (h : i < l.length), rd_T46 l (i : Int) = l[i] := fun i h => getD_lt h
 have key := up_ind l.length (fun i => ∀ acc : List UInt8, acc.length ≤ 400 * i + 1 → Ev (fun k => spec_l2MatchersText.l0 k (bs acc) l (l.length : Int) (i : Int)) (bs (acc ++ tailM (decide (i = 0)) (l.drop i)))) ?_ ?_ 0 (by omega) [123] (by simp)
 ·exact key
 ·intro acc ha
  rw [List.drop_length]
  refine ev_step (fun _ => spec_l2MatchersText.l0.eq_2 ..) (ev_neg (by omega) (ev_pos (by rw [bs_size]; omega) ?_))
  rw [show (⟨#[125]⟩ : ByteArray) = bs [125] from rfl, bs_app]
  exact ev_now _
 ·intro i h ih acc ha
  have hg := hb l[i] (List.getElem_mem h)
  obtain ⟨b1, b2, b3, b4⟩ := id hg
  have ql := quoteL_len (Y l[i].f2)
  rw [Y_len] at ql
  have il := itemM_len l[i] hg
  have sl := sg_size l[i] ⟨b3, b4⟩
  refine ev_step (fun _ => spec_l2MatchersText.l0.eq_2 ..) (ev_pos (by omega) (ev_pos (by omega) (ev_pos (by omega) ?_)))
  rw [hrd i h, List.drop_eq_getElem_cons h, w64n h (by omega)]
  refine ev_ite (fun h1 => ?_) (fun h1 => ?_)
  ·refine ev_pos (by rw [bs_size]; omega) (ev_bind (ev_eq (show spec_l2Ops.f = some SIGNS from rfl)) ?_)
   rw [show rdOf ByteArray.empty SIGNS l[i].f1 = sg l[i] from rfl]
   refine ev_pos (by omega) (ev_pos (by show _ < ((5 : Nat) : Int); omega) (ev_pos (by omega) (ev_bind (quote_spec _ (by omega)) (ev_pos (by rw [ByteArray.size_append, bs_size]; omega) ?_))))
   rw [itemM_eq, show (⟨#[44]⟩ : ByteArray) = bs [44] from rfl, bs_app, bs_app, bs_size, bs_size]
   refine ev_pos (by rw [List.length_append, List.length_singleton]; omega) ?_
   have := ih (acc ++ [44] ++ itemM l[i]) (by rw [List.length_append, List.length_append, List.length_singleton]; omega)
   rw [decide_eq_false (by omega)] at this ⊢
   simpa [tailM] using this
  ·obtain rfl : i = 0 := by omega
   refine ev_bind (ev_eq (show spec_l2Ops.f = some SIGNS from rfl)) ?_
   rw [show rdOf ByteArray.empty SIGNS l[0].f1 = sg l[0] from rfl]
   refine ev_pos (by omega) (ev_pos (by show _ < ((5 : Nat) : Int); omega) (ev_pos (by omega) (ev_bind (quote_spec _ (by omega)) (ev_pos (by rw [ByteArray.size_append, bs_size]; omega) ?_))))
   rw [itemM_eq, bs_app, bs_size, bs_size]
   refine ev_pos (by omega) ?_
   have := ih (acc ++ itemM l[0]) (by rw [List.length_append]; omega)
   rw [decide_eq_false (by omega)] at this
   rw [decide_eq_true rfl]
   simpa [tailM] using this
theorem joinTailM_len (B : Nat) : ∀ r : List (List UInt8), (∀ x ∈ r, x.length ≤ B) → (Lib.joinTail [44] r).length ≤ r.length * (B + 1) := by
 intro r
 induction r with
 | nil => intro _; simp [Lib.joinTail]
 | cons x r ih =>
  intro h
  have h1 := ih (fun y hy => h y (List.mem_cons_of_mem _ hy))
  have h2 := h x (List.mem_cons_self ..)
  unfold Lib.joinTail at h1 ⊢
  rw [List.map_cons, List.flatten_cons, List.length_append, List.length_append, List.length_singleton, List.length_cons, Nat.add_mul, Nat.one_mul]
  omega
theorem joinTail_itemsM : ∀ l : List S46, Lib.joinTail [44] (l.map itemM) ++ [125] = tailM false l := by
 intro l
 induction l with
 | nil => rfl
 | cons x l ih =>
  simp only [tailM]
  rw [← ih]
  simp [Lib.joinTail]
theorem join_itemsM (l : List S46) : Lib.join (l.map itemM) [44] ++ [125] = tailM true l := by
 cases l with
 | nil => rfl
 | cons x l =>
  rw [List.map_cons, Lib.join_cons, List.append_assoc, joinTail_itemsM]
  rfl
theorem joinM_len (l : List S46) (hn : l.length ≤ 10) (hb : ∀ x ∈ l, goodMx x) : (Lib.join (l.map itemM) [44]).length ≤ 6321 := by
 cases l with
 | nil => simp [Lib.join_nil]
 | cons x l =>
  have h1 := joinTailM_len 300 (l.map itemM) (fun y hy => by
   obtain ⟨z, hz, rfl⟩ := List.mem_map.1 hy
   exact itemM_len z (hb z (List.mem_cons_of_mem _ hz)))
  have h2 := itemM_len x (hb x (List.mem_cons_self ..))
  rw [List.length_map] at h1
  rw [List.length_cons] at hn
  rw [List.map_cons, Lib.join_cons, List.length_append]
  omega
theorem matcherText_impl (x : S46) (hg : goodMx x) : Ev (fun k => impl_matcherText.f k x.f0 x.f1 x.f2) (bs (itemM x)) := by
 obtain ⟨b1, b2, b3, b4⟩ := hg
 have ql := quoteL_len (Y x.f2)
 rw [Y_len] at ql
 have sl := sg_size x ⟨b3, b4⟩
 unfold impl_matcherText.f
 rw [show rdOf ByteArray.empty lT1 x.f1 = sg x from rfl]
 refine ev_pos (by omega) (ev_pos (by omega) (ev_pos (by omega) (ev_bind (quote_impl _ (by omega)) (ev_pos (by rw [ByteArray.size_append, bs_size]; omega) ?_))))
 rw [itemM_eq]
 exact ev_now _
theorem textM_impl_l (l : List S46) (hn : l.length ≤ 10) (hb : ∀ x ∈ l, goodMx x) : Ev (fun k => impl_MatchersText.l0 k [] l (l.length : Int) 0) (bs (textM l)) := by
 have hrd : ∀ (i : Nat) (h : i < l.length), rd_T46 l (i : Int) = l[i] := fun i h => getD_lt h
 have key := up_ind l.length (fun i => Ev (fun k => impl_MatchersText.l0 k ((l.take i).map fun x => bs (itemM x)) l (l.length : Int) (i : Int)) (bs (textM l))) ?_ ?_ 0 (by omega)
 ·exact key
 ·rw [List.take_length]
  refine ev_step (fun _ => impl_MatchersText.l0.eq_2 ..) (ev_neg (by omega) ?_)
  have e1 : ((l.map fun x => bs (itemM x)).map (·.data.toList)) = l.map itemM := by rw [List.map_map]; exact congrArg (fun f => l.map f) (funext fun x => Y_bs _)
  have e2 := joinM_len l hn hb
  refine ev_bind (a := bs (Lib.join (l.map itemM) [44])) (ev_eq ?_) ?_
  ·unfold strings_Join.f
   rw [e1]
   exact if_pos ⟨by rw [List.length_map]; omega, by show (Lib.join (l.map itemM) [44]).length ≤ _; omega⟩
  ·refine ev_pos (by rw [bs_size]; omega) ?_
   rw [show (⟨#[123]⟩ : ByteArray) = bs [123] from rfl, show (⟨#[125]⟩ : ByteArray) = bs [125] from rfl, bs_app, bs_app, bs_size]
   refine ev_pos (by rw [List.length_append, List.length_singleton]; omega) ?_
   rw [List.append_assoc, join_itemsM]
   exact ev_now _
 ·intro i h ih
  refine ev_step (fun _ => impl_MatchersText.l0.eq_2 ..) (ev_pos (by omega) (ev_pos (by omega) (ev_pos (by omega) ?_)))
  rw [hrd i h, w64n h (by omega)]
  refine ev_bind (matcherText_impl _ (hb l[i] (List.getElem_mem h))) (ev_pos (by rw [List.length_map, List.length_take]; omega) ?_)
  rw [List.take_succ_eq_append_getElem h, List.map_append] at ih
  exact ih
def textOfM (l : List S46) : ByteArray := if matchesB l = true then bs (textM l) else bs []
theorem textM_spec (l : List S46) (hl : l.length ≤ 9223372036854775807) (hf : fitM l) : Ev (fun k => spec_MatchersText.f k l) (textOfM l) := by
 unfold spec_MatchersText.f textOfM
 refine ev_bind (goodMatchers_spec l hl hf) (ev_ite (fun h => ?_) (fun h => ?_))
 ·obtain ⟨h1, h2⟩ := matches_all h
  rw [if_pos h]
  exact ev_bind (textM_spec_l l h1 h2) (ev_now _)
 ·rw [if_neg h]
  exact ev_now _
theorem textM_impl (l : List S46) (hl : l.length ≤ 9223372036854775807) (hf : fitM l) : Ev (fun k => impl_MatchersText.f k l) (textOfM l) := by
 unfold impl_MatchersText.f textOfM
 refine ev_bind (goodMatchers_impl l hl hf) (ev_ite (fun h => ?_) (fun h => ?_))
 ·obtain ⟨h1, h2⟩ := matches_all h
  rw [if_pos h]
  exact textM_impl_l l h1 h2
 ·rw [if_neg h]
  exact ev_now _
end Go.Proofs.YtknlgignjbghkaaDoor.U

