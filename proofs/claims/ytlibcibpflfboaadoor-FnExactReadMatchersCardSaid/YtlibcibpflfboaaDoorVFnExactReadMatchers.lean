/- Plain lemmas over the printed functions, for the law FnExactReadMatchers; each theorem states its own conditions. -/
import Derived.Test.YtlibcibpflfboaaDoorPrx0
import Derived.Test.YtlibcibpflfboaaDoorPrxgfda1fn1
import Derived.Test.YtlibcibpflfboaaDoorPrxgfda1fn2
import Derived.Test.YtlibcibpflfboaaDoorPrxgfda1fn3
namespace Go.Proofs.YtlibcibpflfboaaDoor.U
open Go.RowKit Go.Proofs.YtlibcibpflfboaaDoor.Pr Go.Proofs.YtlibcibpflfboaaDoorW.PrintWords Go.Proofs.YtlibcibpflfboaaDoorW.PrintLast Go.Proofs.YtlibcibpflfboaaDoorW.PrintMore
set_option linter.unusedVariables false
set_option linter.unusedSimpArgs false
/-! Words for plain proofs over the printed functions: from some number of rounds on; loops that go up; ranges. -/
theorem w64 {x : Int} (h0 : -9223372036854775808 ≤ x) (h1 : x ≤ 9223372036854775807) : wrap64 x = x := by unfold wrap64; omega
theorem w64n {i n : Nat} (h : i < n) (hn : n ≤ 9223372036854775807) : wrap64 ((i : Int) + 1) = ((i + 1 : Nat) : Int) := by unfold wrap64; omega
theorem ev_now {α : Type} (r : α) : Ev (fun _ => some r) r := Ev.now r
theorem ev_eq {α : Type} {g : Option α} {r : α} (h : g = some r) : Ev (fun _ => g) r := ⟨0, fun _ _ => h⟩
theorem ev_pos {α : Type} {c : Prop} [Decidable c] {a b : Nat → Option α} {r : α} (h : c) (e : Ev a r) : Ev (fun k => if c then a k else b k) r := by
 obtain ⟨K, e⟩ := e
 exact ⟨K, fun k hk => (if_pos h).trans (e k hk)⟩
theorem ev_neg {α : Type} {c : Prop} [Decidable c] {a b : Nat → Option α} {r : α} (h : ¬ c) (e : Ev b r) : Ev (fun k => if c then a k else b k) r := by
 obtain ⟨K, e⟩ := e
 exact ⟨K, fun k hk => (if_neg h).trans (e k hk)⟩
theorem ev_ite {α : Type} {c : Prop} [Decidable c] {a b : Nat → Option α} {r : α} (h : c → Ev a r) (h' : ¬ c → Ev b r) : Ev (fun k => if c then a k else b k) r := by
 by_cases hc : c
 ·exact ev_pos hc (h hc)
 ·exact ev_neg hc (h' hc)
theorem ev_bind {α β : Type} {g : Nat → Option α} {f : Nat → α → Option β} {a : α} {r : β} (h : Ev g a) (k : Ev (fun n => f n a) r) : Ev (fun n => (g n).bind (f n)) r := Ev.bind h k
theorem ev_some {α β : Type} {f : Nat → α → Option β} {a : α} {r : β} (k : Ev (fun n => f n a) r) : Ev (fun n => (some a).bind (f n)) r := Ev.bind (Ev.now a) k
theorem ev_step {α : Type} {g f : Nat → Option α} {r : α} (h : ∀ k, g (k + 1) = f k) (k : Ev f r) : Ev g r := Ev.step h k
/-- What holds at the end and goes down a round, holds at each round. -/
theorem up_ind (n : Nat) (Q : Nat → Prop) (done : Q n) (step : ∀ i, i < n → Q (i + 1) → Q i) : ∀ i, i ≤ n → Q i := by
 have key : ∀ d i, i + d = n → Q i := by
  intro d
  induction d with
  | zero =>
   intro i h
   have e : i = n := by omega
   rw [e]
   exact done
  | succ d ih => intro i h; exact step i (by omega) (ih (i + 1) (by omega))
 exact fun i h => key (n - i) i (by omega)
theorem getD_lt {α : Type} {l : List α} {d : α} {i : Nat} (h : i < l.length) : l.getD ((i : Int).toNat) d = l[i] := by
 rw [Int.toNat_natCast, List.getD_eq_getElem?_getD, List.getElem?_eq_getElem h]
 rfl
end Go.Proofs.YtlibcibpflfboaaDoor.U
namespace Go.Proofs.YtlibcibpflfboaaDoor.U
open Go.RowKit Go.Proofs.YtlibcibpflfboaaDoor.Pr Go.Proofs.YtlibcibpflfboaaDoorW.PrintWords Go.Proofs.YtlibcibpflfboaaDoorW.PrintLast Go.Proofs.YtlibcibpflfboaaDoorW.PrintMore
set_option linter.unusedVariables false
set_option linter.unusedSimpArgs false
/-- A string's bytes. -/
abbrev Y (s : ByteArray) : List UInt8 := s.data.toList
theorem Y_eq {s : ByteArray} : s.toList = Y s := ByteArray.toList_eq s
theorem Y_len (s : ByteArray) : (Y s).length = s.size := Array.length_toList
theorem Y_inj {s t : ByteArray} (h : Y s = Y t) : s = t := by
 cases s
 cases t
 congr
 exact Array.toList_inj.1 h
theorem bt_at {s : ByteArray} {i : Nat} (h : i < s.size) : bt s (i : Int) = (((Y s)[i]'(by rw [Y_len]; exact h)).toNat : Int) := by
 unfold bt
 rw [dif_pos (show ((i : Int)).toNat < s.size from by omega)]
 rfl
theorem Y_drop {s : ByteArray} {i : Nat} (h : i < s.size) : (Y s).drop i = (Y s)[i]'(by rw [Y_len]; exact h) :: (Y s).drop (i + 1) := List.drop_eq_getElem_cons _
theorem Y_drop_end (s : ByteArray) : (Y s).drop s.size = [] := by rw [← Y_len, List.drop_length]
def digC (c : UInt8) : Bool := decide (48 ≤ (c.toNat : Int)) && decide ((c.toNat : Int) ≤ 57)
def letC (c : UInt8) : Bool := decide (97 ≤ (c.toNat : Int)) && decide ((c.toNat : Int) ≤ 122) || decide (65 ≤ (c.toNat : Int)) && decide ((c.toNat : Int) ≤ 90)
def wordC (c : UInt8) : Bool := letC c || digC c || decide ((c.toNat : Int) = 95)
def prC (c : UInt8) : Bool := decide (32 ≤ (c.toNat : Int)) && decide ((c.toNat : Int) ≤ 126)
/-- A name: at most 40 letters, digits and _, no digit first. -/
def nameL (l : List UInt8) : Bool := decide (1 ≤ l.length) && decide (l.length ≤ 40) && !(l.head?.any digC) && l.all wordC
def prL (n : Nat) (l : List UInt8) : Bool := decide (l.length ≤ n) && l.all prC
end Go.Proofs.YtlibcibpflfboaaDoor.U
namespace Go.Proofs.YtlibcibpflfboaaDoor.U
open Go.RowKit Go.Proofs.YtlibcibpflfboaaDoor.Pr Go.Proofs.YtlibcibpflfboaaDoorW.PrintWords Go.Proofs.YtlibcibpflfboaaDoorW.PrintLast Go.Proofs.YtlibcibpflfboaaDoorW.PrintMore
set_option linter.unusedVariables false
set_option linter.unusedSimpArgs false
theorem printed_spec (s : ByteArray) (hs : s.size ≤ 9223372036854775807) : Ev (fun k => spec_l2Printed.f k s) ((Y s).all prC) := by
 refine up_ind s.size (fun i => Ev (fun k => spec_l2Printed.l0 k s (i : Int)) (((Y s).drop i).all prC)) ?_ ?_ 0 (by omega)
 ·rw [Y_drop_end]
  exact ev_step (fun _ => spec_l2Printed.l0.eq_2 ..) (ev_neg (by omega) (ev_now _))
 ·intro i h ih
  refine ev_step (fun _ => spec_l2Printed.l0.eq_2 ..) (ev_pos (by omega) (ev_pos (by omega) ?_))
  rw [bt_at h, Y_drop h, List.all_cons, w64n h hs]
  unfold prC
  refine ev_ite (fun h1 => ?_) (fun h1 => ev_ite (fun h2 => ?_) (fun h2 => ?_))
  ·rw [decide_eq_false (by omega)]
   exact ev_now _
  ·rw [decide_eq_false (show ¬ _ ≤ (126 : Int) from by omega), Bool.and_false, Bool.false_and]
   exact ev_now _
  ·rw [decide_eq_true (by omega), decide_eq_true (by omega)]
   exact ih
theorem printed_impl (s : ByteArray) (hs : s.size ≤ 9223372036854775807) (n : Nat) : Ev (fun k => impl_printed.f k s (n : Int)) (prL n (Y s)) := by
 unfold impl_printed.f prL
 rw [Y_len]
 refine ev_ite (fun h => ?_) (fun h => ?_)
 ·rw [decide_eq_false (by omega)]
  exact ev_now _
 ·rw [decide_eq_true (by omega), Bool.true_and]
  refine up_ind s.size (fun i => Ev (fun k => impl_printed.l0 k s (s.size : Int) (i : Int)) (((Y s).drop i).all prC)) ?_ ?_ 0 (by omega)
  ·rw [Y_drop_end]
   exact ev_step (fun _ => impl_printed.l0.eq_2 ..) (ev_neg (by omega) (ev_now _))
  ·intro i h ih
   refine ev_step (fun _ => impl_printed.l0.eq_2 ..) (ev_pos (by omega) (ev_pos (by omega) (ev_pos (by omega) ?_)))
   rw [bt_at h, Y_drop h, List.all_cons, w64n h hs]
   unfold prC
   refine ev_ite (fun h1 => ?_) (fun h1 => ev_ite (fun h2 => ?_) (fun h2 => ?_))
   ·rw [decide_eq_false (by omega)]
    exact ev_now _
   ·rw [decide_eq_false (show ¬ _ ≤ (126 : Int) from by omega), Bool.and_false, Bool.false_and]
    exact ev_now _
   ·rw [decide_eq_true (by omega), decide_eq_true (by omega)]
    exact ih
end Go.Proofs.YtlibcibpflfboaaDoor.U
namespace Go.Proofs.YtlibcibpflfboaaDoor.U
open Go.RowKit Go.Proofs.YtlibcibpflfboaaDoor.Pr Go.Proofs.YtlibcibpflfboaaDoorW.PrintWords Go.Proofs.YtlibcibpflfboaaDoorW.PrintLast Go.Proofs.YtlibcibpflfboaaDoorW.PrintMore
set_option linter.unusedVariables false
set_option linter.unusedSimpArgs false
theorem digit_impl (c : UInt8) : impl_digitByte.f (c.toNat : Int) = some (digC c) := by
 unfold impl_digitByte.f digC
 by_cases h : (c.toNat : Int) ≥ 48
 ·rw [if_pos h, decide_eq_true (show 48 ≤ (c.toNat : Int) from h), Bool.true_and]
 ·rw [if_neg h, decide_eq_false (show ¬ 48 ≤ (c.toNat : Int) from h), Bool.false_and]
theorem digit_spec (c : UInt8) : spec_l2Digit.f (c.toNat : Int) = some (digC c) := by
 unfold spec_l2Digit.f digC
 by_cases h : (c.toNat : Int) ≥ 48
 ·rw [if_pos h, decide_eq_true (show 48 ≤ (c.toNat : Int) from h), Bool.true_and]
 ·rw [if_neg h, decide_eq_false (show ¬ 48 ≤ (c.toNat : Int) from h), Bool.false_and]
theorem letter_impl (c : UInt8) : impl_letterByte.f (c.toNat : Int) = some (letC c) := by
 unfold impl_letterByte.f letC
 by_cases h : (c.toNat : Int) ≥ 97 <;> by_cases h1 : (c.toNat : Int) ≤ 122 <;> by_cases h2 : (c.toNat : Int) ≥ 65 <;> by_cases h3 : (c.toNat : Int) ≤ 90 <;> simp [h, h1, h2, h3] <;> omega
theorem letter_spec (c : UInt8) : spec_l2Letter.f (c.toNat : Int) = some (letC c) := by
 unfold spec_l2Letter.f letC
 by_cases h : (c.toNat : Int) ≥ 97 <;> by_cases h1 : (c.toNat : Int) ≤ 122 <;> by_cases h2 : (c.toNat : Int) ≥ 65 <;> by_cases h3 : (c.toNat : Int) ≤ 90 <;> simp [h, h1, h2, h3] <;> omega
theorem word_impl (c : UInt8) : impl_wordByte.f (c.toNat : Int) = some (wordC c) := by
 unfold impl_wordByte.f wordC
 rw [letter_impl, digit_impl]
 cases letC c <;> cases digC c <;> simp <;> rfl
theorem name_loop_impl (s : ByteArray) (hs : s.size ≤ 9223372036854775807) : Ev (fun k => impl_isName.l0 k s (s.size : Int) 0) ((Y s).all wordC) := by
 refine up_ind s.size (fun i => Ev (fun k => impl_isName.l0 k s (s.size : Int) (i : Int)) (((Y s).drop i).all wordC)) ?_ ?_ 0 (by omega)
 ·rw [Y_drop_end]
  exact ev_step (fun _ => impl_isName.l0.eq_2 ..) (ev_neg (by omega) (ev_now _))
 ·intro i h ih
  refine ev_step (fun _ => impl_isName.l0.eq_2 ..) (ev_pos (by omega) (ev_pos (by omega) (ev_pos (by omega) ?_)))
  rw [bt_at h, Y_drop h, List.all_cons, w64n h hs]
  refine ev_bind (ev_eq (word_impl _)) (ev_ite (fun h1 => ?_) (fun h1 => ?_))
  ·rw [h1]
   exact ih
  ·rw [Bool.eq_false_iff.2 h1]
   exact ev_now _
theorem name_loop_spec (s : ByteArray) (hs : s.size ≤ 9223372036854775807) : Ev (fun k => spec_l2Name.l0 k s 0) ((Y s).all wordC) := by
 refine up_ind s.size (fun i => Ev (fun k => spec_l2Name.l0 k s (i : Int)) (((Y s).drop i).all wordC)) ?_ ?_ 0 (by omega)
 ·rw [Y_drop_end]
  exact ev_step (fun _ => spec_l2Name.l0.eq_2 ..) (ev_neg (by omega) (ev_now _))
 ·intro i h ih
  refine ev_step (fun _ => spec_l2Name.l0.eq_2 ..) (ev_pos (by omega) (ev_pos (by omega) ?_))
  rw [bt_at h, Y_drop h, List.all_cons, w64n h hs]
  unfold wordC
  refine ev_bind (ev_eq (letter_spec _)) (ev_ite (fun h1 => ?_) (fun h1 => ev_bind (ev_eq (digit_spec _)) (ev_ite (fun h2 => ?_) (fun h2 => ev_ite (fun h3 => ?_) (fun h3 => ?_)))))
  ·rw [h1]
   exact ih
  ·rw [h2, Bool.or_true]
   exact ih
  ·rw [decide_eq_true h3, Bool.or_true]
   exact ih
  ·rw [Bool.eq_false_iff.2 h1, Bool.eq_false_iff.2 h2, decide_eq_false h3]
   exact ev_now _
theorem name_impl (s : ByteArray) (hs : s.size ≤ 9223372036854775807) : Ev (fun k => impl_isName.f k s) (nameL (Y s)) := by
 unfold impl_isName.f nameL
 rw [Y_eq]
 refine ev_ite (fun h => ?_) (fun h => ?_)
 ·rw [h]
  exact ev_step (fun _ => impl_isName.j0.eq_2 ..) (ev_pos rfl (ev_now _))
 ·have hl : 1 ≤ (Y s).length := by
   cases e : Y s with
   | nil => exact absurd e h
   | cons a l => simp
  rw [decide_eq_true hl, Y_len, Bool.true_and]
  rw [Y_len] at hl
  refine ev_ite (fun h1 => ?_) (fun h1 => ev_pos (by omega) ?_)
  ·rw [decide_eq_false (by omega)]
   exact ev_step (fun _ => impl_isName.j0.eq_2 ..) (ev_pos rfl (ev_now _))
  ·rw [decide_eq_true (by omega), Bool.true_and]
   have e0 := bt_at (s := s) (i := 0) (by omega)
   have eh : (Y s).head? = some ((Y s)[0]'(by rw [Y_len]; omega)) := by rw [List.head?_eq_getElem?, List.getElem?_eq_getElem]
   rw [show bt s 0 = bt s ((0 : Nat) : Int) from rfl, e0, eh]
   refine ev_bind (ev_eq (digit_impl _)) (ev_step (fun _ => impl_isName.j0.eq_2 ..) (ev_ite (fun h2 => ?_) (fun h2 => ?_)))
   ·rw [Option.any_some, h2]
    exact ev_now _
   ·rw [Option.any_some, Bool.eq_false_iff.2 h2]
    exact name_loop_impl s hs
theorem name_spec (s : ByteArray) (hs : s.size ≤ 9223372036854775807) : Ev (fun k => spec_l2Name.f k s) (nameL (Y s)) := by
 unfold spec_l2Name.f nameL
 rw [Y_len]
 refine ev_ite (fun h => ?_) (fun h => ?_)
 ·rw [decide_eq_false (by omega)]
  exact ev_step (fun _ => spec_l2Name.j0.eq_2 ..) (ev_pos rfl (ev_now _))
 ·rw [decide_eq_true (by omega), Bool.true_and]
  refine ev_ite (fun h1 => ?_) (fun h1 => ev_pos (by omega) ?_)
  ·rw [decide_eq_false (by omega)]
   exact ev_step (fun _ => spec_l2Name.j0.eq_2 ..) (ev_pos rfl (ev_now _))
  ·rw [decide_eq_true (by omega), Bool.true_and]
   have e0 := bt_at (s := s) (i := 0) (by omega)
   have eh : (Y s).head? = some ((Y s)[0]'(by rw [Y_len]; omega)) := by rw [List.head?_eq_getElem?, List.getElem?_eq_getElem]
   rw [show bt s 0 = bt s ((0 : Nat) : Int) from rfl, e0, eh]
   refine ev_bind (ev_eq (digit_spec _)) (ev_step (fun _ => spec_l2Name.j0.eq_2 ..) (ev_ite (fun h2 => ?_) (fun h2 => ?_)))
   ·rw [Option.any_some, h2]
    exact ev_now _
   ·rw [Option.any_some, Bool.eq_false_iff.2 h2]
    exact name_loop_spec s hs
end Go.Proofs.YtlibcibpflfboaaDoor.U
namespace Go.Proofs.YtlibcibpflfboaaDoor.U
open Go.RowKit Go.Proofs.YtlibcibpflfboaaDoor.Pr Go.Proofs.YtlibcibpflfboaaDoorW.PrintWords Go.Proofs.YtlibcibpflfboaaDoorW.PrintLast Go.Proofs.YtlibcibpflfboaaDoorW.PrintMore
set_option linter.unusedVariables false
set_option linter.unusedSimpArgs false
/-- The text of some bytes. -/
def bs (l : List UInt8) : ByteArray := ⟨l.toArray⟩
theorem Y_bs (l : List UInt8) : Y (bs l) = l := by simp [bs]
theorem bs_Y (s : ByteArray) : bs (Y s) = s := Y_inj (Y_bs _)
theorem bs_size (l : List UInt8) : (bs l).size = l.length := by rw [← Y_len, Y_bs]
theorem Y_app (a b : ByteArray) : Y (a ++ b) = Y a ++ Y b := by simp [ByteArray.data_append]
theorem bs_app (a b : List UInt8) : bs a ++ bs b = bs (a ++ b) := Y_inj (by rw [Y_app, Y_bs, Y_bs, Y_bs])
def ints (l : List UInt8) : List Int := l.map fun c => (c.toNat : Int)
theorem ints_len (l : List UInt8) : (ints l).length = l.length := List.length_map ..
theorem ints_two (l : List UInt8) (c : UInt8) : ints l ++ [92] ++ [(c.toNat : Int)] = ints (l ++ [92, c]) := by simp [ints]
theorem ints_one (l : List UInt8) (c : UInt8) : ints l ++ [(c.toNat : Int)] = ints (l ++ [c]) := by simp [ints]
theorem strOf_ints (l : List UInt8) : strOfNums (ints l) = bs l := by
 unfold strOfNums ints bs
 rw [List.map_map]
 congr 2
 rw [show ((fun n => UInt8.ofNat n.toNat) ∘ fun (c : UInt8) => (c.toNat : Int)) = id from by funext c; simp, List.map_id]
def esc (c : UInt8) : List UInt8 := if (c.toNat : Int) = 34 ∨ (c.toNat : Int) = 92 then [92, c] else [c]
/-- A text in quotes: a quote and a backslash stand behind a backslash. -/
def quoteL (l : List UInt8) : List UInt8 := 34 :: (l.flatMap esc ++ [34])
theorem esc_len (c : UInt8) : (esc c).length ≤ 2 := by unfold esc; split <;> simp
theorem escs_len : ∀ l : List UInt8, (l.flatMap esc).length ≤ 2 * l.length := by
 intro l
 induction l with
 | nil => simp
 | cons c l ih => have := esc_len c; rw [List.flatMap_cons, List.length_append, List.length_cons]; omega
theorem quoteL_len (l : List UInt8) : (quoteL l).length ≤ 2 * l.length + 2 := by
 have := escs_len l
 unfold quoteL
 simp only [List.length_cons, List.length_append, List.length_nil]
 omega
theorem quote_impl (s : ByteArray) (hs : s.size ≤ 1048576) : Ev (fun k => impl_quote.f k s) (bs (quoteL (Y s))) := by
 unfold impl_quote.f
 have key := up_ind s.size (fun i => ∀ acc : List UInt8, acc.length ≤ 2 * i + 1 → Ev (fun k => impl_quote.l0 k s (ints acc) (s.size : Int) (i : Int)) (bs (acc ++ (((Y s).drop i).flatMap esc ++ [34])))) ?_ ?_ 0 (by omega) [34] (by simp)
 ·exact key
 ·intro acc ha
  rw [Y_drop_end, List.flatMap_nil, List.nil_append]
  refine ev_step (fun _ => impl_quote.l0.eq_2 ..) (ev_neg (by omega) (ev_pos (by rw [ints_len]; omega) ?_))
  rw [show ints acc ++ [34] = ints (acc ++ [34]) from by simp [ints], strOf_ints]
  exact ev_now _
 ·intro i h ih acc ha
  refine ev_step (fun _ => impl_quote.l0.eq_2 ..) (ev_pos (by omega) (ev_pos (by omega) (ev_pos (by omega) ?_)))
  rw [bt_at h, Y_drop h, List.flatMap_cons, w64n h (by omega)]
  have two : (((Y s)[i]'(by rw [Y_len]; exact h)).toNat : Int) = 34 ∨ (((Y s)[i]'(by rw [Y_len]; exact h)).toNat : Int) = 92 → Ev (fun k => if (ints acc).length < 140737488355328 then ((some (ints acc ++ [92] : List Int)).bind fun y => (if y.length < 140737488355328 then (impl_quote.l0 k s (y ++ [(((Y s)[i]'(by rw [Y_len]; exact h)).toNat : Int)]) (s.size : Int) ((i + 1 : Nat) : Int)) else none)) else none) (bs (acc ++ (esc (Y s)[i] ++ ((Y s).drop (i + 1)).flatMap esc ++ [34]))) := by
   intro hc
   refine ev_pos (by rw [ints_len]; omega) (ev_some (ev_pos (by rw [List.length_append, ints_len, List.length_singleton]; omega) ?_))
   rw [ints_two]
   have := ih (acc ++ [92, (Y s)[i]]) (by rw [List.length_append, List.length_cons, List.length_singleton]; omega)
   rw [show esc _ = _ from if_pos hc]
   simpa only [List.append_assoc] using this
  refine ev_ite (fun h1 => two (Or.inl h1)) (fun h1 => ev_ite (fun h2 => two (Or.inr h2)) (fun h2 => ev_pos (by rw [ints_len]; omega) ?_))
  rw [ints_one]
  have := ih (acc ++ [(Y s)[i]]) (by rw [List.length_append, List.length_singleton]; omega)
  rw [show esc _ = _ from if_neg (by rintro (e | e) <;> contradiction)]
  simpa only [List.append_assoc] using this
end Go.Proofs.YtlibcibpflfboaaDoor.U
namespace Go.Proofs.YtlibcibpflfboaaDoor.U
open Go.RowKit Go.Proofs.YtlibcibpflfboaaDoor.Pr Go.Proofs.YtlibcibpflfboaaDoorW.PrintWords Go.Proofs.YtlibcibpflfboaaDoorW.PrintLast Go.Proofs.YtlibcibpflfboaaDoorW.PrintMore
set_option linter.unusedVariables false
set_option linter.unusedSimpArgs false
theorem u8i {c d : UInt8} : (c.toNat : Int) = (d.toNat : Int) ↔ c = d := by rw [Int.natCast_inj, UInt8.toNat_inj]
theorem u34 {c : UInt8} : (c.toNat : Int) = 34 ↔ c = 34 := u8i (d := 34)
theorem u92 {c : UInt8} : (c.toNat : Int) = 92 ↔ c = 92 := u8i (d := 92)
theorem Y_ext (s : ByteArray) (a b : Nat) : Y (s.extract a b) = ((Y s).drop a).take (b - a) := by
 show (s.extract a b).data.toList = _
 rw [ByteArray.data_extract, Array.toList_extract, List.extract_eq_take_drop]
theorem ext_drop (s : ByteArray) (n : Nat) : s.extract n s.size = bs ((Y s).drop n) := Y_inj (by rw [Y_ext, Y_bs, List.take_of_length_le]; rw [List.length_drop, Y_len]; exact Nat.le_refl _)
theorem ext_take (s : ByteArray) (n : Nat) : s.extract 0 n = bs ((Y s).take n) := Y_inj (by rw [Y_ext, Y_bs, List.drop_zero, Nat.sub_zero])
/-- What stands between quotes, read behind the first: it, and what is behind the last. -/
def unq : List UInt8 → Option (List UInt8 × List UInt8)
 | [] => none
 | [c] => if c = 34 then some ([], []) else none
 | c :: d :: r => if c = 34 then some ([], d :: r) else if c = 92 then (if d = 34 ∨ d = 92 then (unq r).map (fun p => (d :: p.1, p.2)) else none) else (unq (d :: r)).map (fun p => (c :: p.1, p.2))
theorem unq_q (c : UInt8) (r : List UInt8) (h : c = 34) : unq (c :: r) = some ([], r) := by
 cases r with
 | nil => simp only [unq]; exact if_pos h
 | cons d r => simp only [unq]; exact if_pos h
theorem unq_o (c : UInt8) (r : List UInt8) (h : c ≠ 34) (h' : c ≠ 92) : unq (c :: r) = (unq r).map (fun p => (c :: p.1, p.2)) := by
 cases r with
 | nil => simp only [unq]; rw [if_neg h]; rfl
 | cons d r => simp only [unq]; rw [if_neg h, if_neg h']
theorem unq_b0 (c : UInt8) (h : c = 92) : unq [c] = none := by subst h; rfl
theorem unq_b (c d : UInt8) (r : List UInt8) (h : c = 92) : unq (c :: d :: r) = if d = 34 ∨ d = 92 then (unq r).map (fun p => (d :: p.1, p.2)) else none := by subst h; rfl
theorem unq_round : ∀ (n : Nat) (l : List UInt8), l.length ≤ n → ∀ v r, unq l = some (v, r) → l = v.flatMap esc ++ 34 :: r := by
 intro n
 induction n with
 | zero => intro l hl v r h; obtain rfl := List.eq_nil_of_length_eq_zero (Nat.le_zero.1 hl); cases h
 | succ n ih =>
  intro l hl v r h
  cases l with
  | nil => cases h
  | cons c l =>
   rw [List.length_cons] at hl
   by_cases h1 : c = 34
   ·rw [unq_q c l h1] at h
    cases h
    rw [h1]
    rfl
   ·by_cases h2 : c = 92
    ·cases l with
     | nil => rw [unq_b0 c h2] at h; cases h
     | cons d l =>
      rw [List.length_cons] at hl
      rw [unq_b c d l h2] at h
      by_cases h3 : d = 34 ∨ d = 92
      ·rw [if_pos h3] at h
       cases e : unq l with
       | none => rw [e] at h; cases h
       | some p =>
        rw [e] at h
        obtain ⟨v', r'⟩ := p
        cases h
        have := ih l (by omega) v' _ e
        rw [List.flatMap_cons, show esc d = [92, d] from if_pos (by rw [u34, u92]; exact h3), this, h2]
        rfl
      ·rw [if_neg h3] at h; cases h
    ·rw [unq_o c l h1 h2] at h
     cases e : unq l with
     | none => rw [e] at h; cases h
     | some p =>
      rw [e] at h
      obtain ⟨v', r'⟩ := p
      cases h
      have := ih l (by omega) v' _ e
      rw [List.flatMap_cons, show esc c = [c] from if_neg (by rw [u34, u92]; rintro (e | e) <;> contradiction), this]
      rfl
def unI (acc : List UInt8) : Option (List UInt8 × List UInt8) → ByteArray × ByteArray × Bool
 | some (v, r) => (bs (acc ++ v), bs r, true)
 | none => (bs [], bs [], false)
def unS (n : Nat) (acc : List UInt8) : Option (List UInt8 × List UInt8) → ByteArray × Int
 | some (v, r) => (bs (acc ++ v), (n : Int) - (r.length : Int))
 | none => (bs [], -1)
theorem unI_map (acc : List UInt8) (c : UInt8) (o : Option (List UInt8 × List UInt8)) : unI acc (o.map fun p => (c :: p.1, p.2)) = unI (acc ++ [c]) o := by
 cases o with
 | none => rfl
 | some p => show (_, _, _) = (_, _, _); simp
theorem unS_map (n : Nat) (acc : List UInt8) (c : UInt8) (o : Option (List UInt8 × List UInt8)) : unS n acc (o.map fun p => (c :: p.1, p.2)) = unS n (acc ++ [c]) o := by
 cases o with
 | none => rfl
 | some p => show (_, _) = (_, _); simp
theorem unq_impl_l (s : ByteArray) (hs : s.size ≤ 1048576) : ∀ (d i : Nat), i ≤ s.size → s.size - i ≤ d → ∀ acc : List UInt8, acc.length ≤ i → Ev (fun k => impl_unquote.l0 k s (ints acc) (i : Int)) (unI acc (unq ((Y s).drop i))) := by
 intro d
 induction d with
 | zero =>
  intro i hi hd acc ha
  obtain rfl : i = s.size := by omega
  rw [Y_drop_end]
  exact ev_step (fun _ => impl_unquote.l0.eq_2 ..) (ev_neg (by omega) (ev_now _))
 | succ d ih =>
  intro i hi hd acc ha
  by_cases h : i < s.size
  ·refine ev_step (fun _ => impl_unquote.l0.eq_2 ..) (ev_pos (by omega) (ev_pos (by omega) ?_))
   rw [bt_at h, Y_drop h, w64n h (by omega)]
   refine ev_ite (fun h1 => ?_) (fun h1 => ?_)
   ·rw [unq_q _ _ (u34.1 h1), strOf_ints, Int.toNat_natCast, ext_drop]
    refine ev_pos (by omega) (ev_pos (by omega) ?_)
    have := ev_now (α := ByteArray × ByteArray × Bool) (bs acc, bs ((Y s).drop (i + 1)), true)
    simpa [unI] using this
   ·rw [u34] at h1
    refine ev_ite (fun h2 => ?_) (fun h2 => ?_)
    ·rw [u92] at h2
     refine ev_ite (fun h3 => ?_) (fun h3 => ?_)
     ·rw [show i + 1 = s.size from by omega, Y_drop_end, unq_b0 _ h2]
      exact ev_now _
     ·have h4 : i + 1 < s.size := by omega
      rw [bt_at h4, Y_drop h4, unq_b _ _ _ h2, w64n h4 (by omega)]
      have two : (Y s)[i + 1]'(by rw [Y_len]; exact h4) = 34 ∨ (Y s)[i + 1]'(by rw [Y_len]; exact h4) = 92 → Ev (fun k => if (ints acc).length < 140737488355328 then (impl_unquote.l0 k s (ints acc ++ [(((Y s)[i + 1]'(by rw [Y_len]; exact h4)).toNat : Int)]) ((i + 1 + 1 : Nat) : Int)) else none) (unI acc (if (Y s)[i + 1]'(by rw [Y_len]; exact h4) = 34 ∨ (Y s)[i + 1]'(by rw [Y_len]; exact h4) = 92 then (unq ((Y s).drop (i + 1 + 1))).map (fun p => ((Y s)[i + 1]'(by rw [Y_len]; exact h4) :: p.1, p.2)) else none)) := by
       intro hc
       rw [if_pos hc, unI_map, ints_one]
       exact ev_pos (by rw [ints_len]; omega) (ih (i + 1 + 1) (by omega) (by omega) _ (by rw [List.length_append, List.length_singleton]; omega))
      refine ev_pos (by omega) (ev_pos (by omega) (ev_ite (fun h5 => two (Or.inl (u34.1 h5))) (fun h5 => ev_ite (fun h6 => two (Or.inr (u92.1 h6))) (fun h6 => ?_))))
      rw [u34] at h5
      rw [u92] at h6
      rw [if_neg (by rintro (e | e) <;> contradiction)]
      exact ev_now _
    ·rw [u92] at h2
     rw [unq_o _ _ h1 h2, unI_map, ints_one]
     exact ev_pos (by rw [ints_len]; omega) (ih (i + 1) (by omega) (by omega) _ (by rw [List.length_append, List.length_singleton]; omega))
  ·obtain rfl : i = s.size := by omega
   rw [Y_drop_end]
   exact ev_step (fun _ => impl_unquote.l0.eq_2 ..) (ev_neg (by omega) (ev_now _))
theorem unq_spec_l (s : ByteArray) (hs : s.size ≤ 1048576) : ∀ (d i : Nat), i ≤ s.size → s.size - i ≤ d → ∀ acc : List UInt8, acc.length ≤ i → Ev (fun k => spec_l2Unquote.l0 k s (ints acc) (i : Int)) (unS s.size acc (unq ((Y s).drop i))) := by
 intro d
 induction d with
 | zero =>
  intro i hi hd acc ha
  obtain rfl : i = s.size := by omega
  rw [Y_drop_end]
  exact ev_step (fun _ => spec_l2Unquote.l0.eq_2 ..) (ev_neg (by omega) (ev_now _))
 | succ d ih =>
  intro i hi hd acc ha
  by_cases h : i < s.size
  ·refine ev_step (fun _ => spec_l2Unquote.l0.eq_2 ..) (ev_pos (by omega) (ev_pos (by omega) ?_))
   rw [bt_at h, Y_drop h, w64n h (by omega)]
   refine ev_ite (fun h1 => ?_) (fun h1 => ?_)
   ·rw [unq_q _ _ (u34.1 h1), strOf_ints]
    have e1 : (s.size : Int) - (((Y s).drop (i + 1)).length : Int) = ((i + 1 : Nat) : Int) := by rw [List.length_drop, Y_len]; omega
    have e2 : unS s.size acc (some ([], (Y s).drop (i + 1))) = (bs acc, ((i + 1 : Nat) : Int)) := by show (_, _) = (_, _); rw [e1, List.append_nil]
    rw [e2]
    exact ev_now _
   ·rw [u34] at h1
    refine ev_ite (fun h2 => ?_) (fun h2 => ?_)
    ·rw [u92] at h2
     refine ev_ite (fun h3 => ?_) (fun h3 => ?_)
     ·rw [show i + 1 = s.size from by omega, Y_drop_end, unq_b0 _ h2]
      exact ev_now _
     ·have h4 : i + 1 < s.size := by omega
      rw [bt_at h4, Y_drop h4, unq_b _ _ _ h2, w64n h4 (by omega)]
      have two : (Y s)[i + 1]'(by rw [Y_len]; exact h4) = 34 ∨ (Y s)[i + 1]'(by rw [Y_len]; exact h4) = 92 → Ev (fun k => if (ints acc).length < 140737488355328 then (spec_l2Unquote.l0 k s (ints acc ++ [(((Y s)[i + 1]'(by rw [Y_len]; exact h4)).toNat : Int)]) ((i + 1 + 1 : Nat) : Int)) else none) (unS s.size acc (if (Y s)[i + 1]'(by rw [Y_len]; exact h4) = 34 ∨ (Y s)[i + 1]'(by rw [Y_len]; exact h4) = 92 then (unq ((Y s).drop (i + 1 + 1))).map (fun p => ((Y s)[i + 1]'(by rw [Y_len]; exact h4) :: p.1, p.2)) else none)) := by
       intro hc
       rw [if_pos hc, unS_map, ints_one]
       exact ev_pos (by rw [ints_len]; omega) (ih (i + 1 + 1) (by omega) (by omega) _ (by rw [List.length_append, List.length_singleton]; omega))
      refine ev_pos (by omega) (ev_pos (by omega) (ev_ite (fun h5 => two (Or.inl (u34.1 h5))) (fun h5 => ev_ite (fun h6 => two (Or.inr (u92.1 h6))) (fun h6 => ?_))))
      rw [u34] at h5
      rw [u92] at h6
      rw [if_neg (by rintro (e | e) <;> contradiction)]
      exact ev_now _
    ·rw [u92] at h2
     rw [unq_o _ _ h1 h2, unS_map, ints_one]
     exact ev_pos (by rw [ints_len]; omega) (ih (i + 1) (by omega) (by omega) _ (by rw [List.length_append, List.length_singleton]; omega))
  ·obtain rfl : i = s.size := by omega
   rw [Y_drop_end]
   exact ev_step (fun _ => spec_l2Unquote.l0.eq_2 ..) (ev_neg (by omega) (ev_now _))
/-- A quoted text at the front. -/
def unqF : List UInt8 → Option (List UInt8 × List UInt8)
 | [] => none
 | c :: r => if c = 34 then unq r else none
theorem Y_nil {s : ByteArray} (h : s.size = 0) : Y s = [] := List.eq_nil_of_length_eq_zero (by rw [Y_len]; exact h)
theorem Y_cons {s : ByteArray} (h : 0 < s.size) : Y s = (Y s)[0]'(by rw [Y_len]; exact h) :: (Y s).drop 1 := by
 have := Y_drop h
 rwa [List.drop_zero] at this
theorem unquote_impl (s : ByteArray) (hs : s.size ≤ 1048576) : Ev (fun k => impl_unquote.f k s) (unI [] (unqF (Y s))) := by
 unfold impl_unquote.f
 rw [Y_eq]
 refine ev_ite (fun h => ?_) (fun h => ?_)
 ·rw [h]
  exact ev_step (fun _ => impl_unquote.j0.eq_2 ..) (ev_pos rfl (ev_now _))
 ·have h0 : 0 < s.size := Nat.pos_of_ne_zero fun e => h (Y_nil e)
  have key := unq_impl_l s hs s.size 1 (by omega) (by omega) [] (by simp)
  rw [Y_cons h0, show bt s 0 = bt s ((0 : Nat) : Int) from rfl, bt_at h0]
  refine ev_pos (by omega) (ev_step (fun _ => impl_unquote.j0.eq_2 ..) (ev_ite (fun h1 => ?_) (fun h1 => ?_)))
  ·rw [bne_iff_ne, ne_eq, u34] at h1
   rw [show unqF (_ :: _) = _ from if_neg h1]
   exact ev_now _
  ·rw [bne_iff_ne, ne_eq, u34, Decidable.not_not] at h1
   rw [show unqF (_ :: _) = _ from if_pos h1]
   exact key
theorem unquote_spec (s : ByteArray) (hs : s.size ≤ 1048576) (i : Nat) : Ev (fun k => spec_l2Unquote.f k s (i : Int)) (unS s.size [] (unqF ((Y s).drop i))) := by
 unfold spec_l2Unquote.f
 refine ev_ite (fun h => ?_) (fun h => ev_pos (by omega) (ev_pos (by omega) ?_))
 ·rw [List.drop_of_length_le (by rw [Y_len]; omega)]
  exact ev_step (fun _ => spec_l2Unquote.j0.eq_2 ..) (ev_pos rfl (ev_now _))
 ·have h0 : i < s.size := by omega
  have key := unq_spec_l s hs s.size (i + 1) (by omega) (by omega) [] (by simp)
  rw [bt_at h0, Y_drop h0]
  refine ev_step (fun _ => spec_l2Unquote.j0.eq_2 ..) (ev_ite (fun h1 => ?_) (fun h1 => ?_))
  ·rw [bne_iff_ne, ne_eq, u34] at h1
   rw [show unqF (_ :: _) = _ from if_neg h1]
   exact ev_now _
  ·rw [bne_iff_ne, ne_eq, u34, Decidable.not_not] at h1
   rw [show unqF (_ :: _) = _ from if_pos h1, w64n h0 (by omega)]
   exact key
/-- How many letters, digits and _ stand at the front. -/
def wl : List UInt8 → Nat
 | [] => 0
 | c :: r => if wordC c = true then wl r + 1 else 0
theorem wl_le : ∀ l : List UInt8, wl l ≤ l.length := by
 intro l
 induction l with
 | nil => exact Nat.le_refl _
 | cons c l ih => simp only [wl, List.length_cons]; split <;> omega
theorem word_impl_l (s : ByteArray) (hs : s.size ≤ 1048576) : Ev (fun k => impl_wordOf.f k s) (bs ((Y s).take (wl (Y s))), bs ((Y s).drop (wl (Y s)))) := by
 unfold impl_wordOf.f
 have key := up_ind s.size (fun i => Ev (fun k => impl_wordOf.l0 k s (i : Int)) (bs ((Y s).take (i + wl ((Y s).drop i))), bs ((Y s).drop (i + wl ((Y s).drop i))))) ?_ ?_ 0 (by omega)
 ·rw [List.drop_zero, Nat.zero_add] at key
  exact key
 ·rw [Y_drop_end]
  refine ev_step (fun _ => impl_wordOf.l0.eq_2 ..) (ev_neg (by omega) (ev_pos (by omega) (ev_pos (by omega) ?_)))
  rw [Int.toNat_natCast, ext_take, ext_drop]
  exact ev_now _
 ·intro i h ih
  refine ev_step (fun _ => impl_wordOf.l0.eq_2 ..) (ev_pos (by omega) (ev_pos (by omega) ?_))
  rw [bt_at h, Y_drop h, w64n h (by omega)]
  simp only [wl]
  refine ev_bind (ev_eq (word_impl _)) (ev_ite (fun h1 => ?_) (fun h1 => ?_))
  ·rw [if_pos h1, show i + (wl ((Y s).drop (i + 1)) + 1) = i + 1 + wl ((Y s).drop (i + 1)) from by omega]
   exact ih
  ·rw [if_neg h1, Int.toNat_natCast, ext_take, ext_drop]
   exact ev_pos (by omega) (ev_now _)
theorem nameAt_spec (s : ByteArray) (hs : s.size ≤ 1048576) (i : Nat) (hi : i ≤ s.size) : Ev (fun k => spec_l2NameAt.f k s (i : Int)) ((i + wl ((Y s).drop i) : Nat) : Int) := by
 unfold spec_l2NameAt.f
 refine up_ind s.size (fun i => Ev (fun k => spec_l2NameAt.l0 k s (i : Int)) ((i + wl ((Y s).drop i) : Nat) : Int)) ?_ ?_ i hi
 ·rw [Y_drop_end]
  exact ev_step (fun _ => spec_l2NameAt.l0.eq_2 ..) (ev_neg (by omega) (ev_now _))
 ·intro i h ih
  refine ev_step (fun _ => spec_l2NameAt.l0.eq_2 ..) (ev_pos (by omega) (ev_pos (by omega) ?_))
  rw [bt_at h, Y_drop h, w64n h (by omega)]
  simp only [wl]
  rw [show i + 1 + wl ((Y s).drop (i + 1)) = i + (wl ((Y s).drop (i + 1)) + 1) from by omega] at ih
  unfold wordC
  refine ev_bind (ev_eq (letter_spec _)) (ev_ite (fun h1 => ?_) (fun h1 => ev_bind (ev_eq (digit_spec _)) (ev_ite (fun h2 => ?_) (fun h2 => ev_ite (fun h3 => ?_) (fun h3 => ?_)))))
  ·rw [h1, Bool.true_or, Bool.true_or, if_pos rfl]
   exact ih
  ·rw [h2, Bool.or_true, Bool.true_or, if_pos rfl]
   exact ih
  ·rw [decide_eq_true h3, Bool.or_true, if_pos rfl]
   exact ih
  ·rw [Bool.eq_false_iff.2 h1, Bool.eq_false_iff.2 h2, decide_eq_false h3, if_neg (by decide)]
   exact ev_now _
theorem hasPre (l : List UInt8) (c : UInt8) : stringslite_HasPrefix.f (bs l) ⟨#[c]⟩ = some (decide (l.head? = some c)) := by
 unfold stringslite_HasPrefix.f
 rw [bs_size, show ((⟨#[c]⟩ : ByteArray).size : Int) = 1 from rfl]
 cases l with
 | nil => rfl
 | cons d r =>
  rw [if_pos (by rw [List.length_cons]; omega), if_pos (by omega), if_pos (by rw [List.length_cons]; omega), Y_eq, Y_eq, ext_take, Y_bs, Y_bs, show Y ⟨#[c]⟩ = [c] from rfl]
  congr 1
  rw [List.head?_cons, show (d :: r).take (Int.toNat 1) = [d] from rfl]
  by_cases h : d = c
  ·subst h; simp
  ·rw [decide_eq_false (by simpa using h)]
   simpa using h
theorem hasPre_ (l : List UInt8) (c : UInt8) : strings_HasPrefix.f (bs l) ⟨#[c]⟩ = some (decide (l.head? = some c)) := by
 unfold strings_HasPrefix.f
 rw [hasPre]
 rfl
theorem cutPre (l : List UInt8) (c : UInt8) : strings_CutPrefix.f (bs l) ⟨#[c]⟩ = some (if l.head? = some c then (bs l.tail, true) else (bs l, false)) := by
 unfold strings_CutPrefix.f stringslite_CutPrefix.f
 rw [hasPre, Option.bind_some, bs_size, show ((⟨#[c]⟩ : ByteArray).size : Int) = 1 from rfl]
 by_cases h : l.head? = some c
 ·cases l with
  | nil => cases h
  | cons d r =>
   rw [if_pos (by simpa using h), if_pos (by omega), if_pos (by rw [List.length_cons]; omega), if_pos h]
   rw [show (Int.toNat 1) = 1 from rfl, ← bs_size (d :: r), ext_drop, Y_bs]
   rfl
 ·rw [if_neg (by simpa using h), if_neg h]
  rfl
theorem unqF_round {l v r : List UInt8} (h : unqF l = some (v, r)) : l = quoteL v ++ r := by
 cases l with
 | nil => cases h
 | cons c l =>
  simp only [unqF] at h
  by_cases hc : c = 34
  ·rw [if_pos hc] at h
   rw [unq_round l.length l (Nat.le_refl _) v r h, hc]
   simp [quoteL]
  ·rw [if_neg hc] at h; cases h
theorem escs_ge : ∀ l : List UInt8, l.length ≤ (l.flatMap esc).length := by
 intro l
 induction l with
 | nil => simp
 | cons c l ih =>
  have : 1 ≤ (esc c).length := by unfold esc; split <;> simp
  rw [List.flatMap_cons, List.length_append, List.length_cons]
  omega
end Go.Proofs.YtlibcibpflfboaaDoor.U
namespace Go.Proofs.YtlibcibpflfboaaDoor.U
open Go.RowKit Go.Proofs.YtlibcibpflfboaaDoor.Pr Go.Proofs.YtlibcibpflfboaaDoorW.PrintWords Go.Proofs.YtlibcibpflfboaaDoorW.PrintLast Go.Proofs.YtlibcibpflfboaaDoorW.PrintMore
set_option linter.unusedVariables false
set_option linter.unusedSimpArgs false
/-- What both programs' GoodPattern answer. -/
def patB (s : ByteArray) : Bool := prL 100 (Y s) && (altA s 0 [] []).2
/-- A pattern's alternatives, as codes. -/
def patA (s : ByteArray) : List (List Int) := if prL 100 (Y s) = true then (altA s 0 [] []).1 else []
theorem prL_size {s : ByteArray} {n : Nat} (h : prL n (Y s) = true) : s.size ≤ n := by
 unfold prL at h
 rw [Y_len, Bool.and_eq_true, decide_eq_true_eq] at h
 exact h.1
theorem alt_spec (s : ByteArray) (hs : s.size ≤ 9223372036854775807) : Ev (fun k => spec_l2Alternatives.f k s) (patA s, patB s) := by
 unfold spec_l2Alternatives.f patB patA prL
 rw [Y_len]
 refine ev_ite (fun h => ?_) (fun h => ?_)
 ·rw [decide_eq_false (by omega), Bool.false_and, Bool.false_and, if_neg (by decide)]
  exact ev_now _
 ·rw [decide_eq_true (by omega), Bool.true_and]
  refine ev_bind (printed_spec s hs) (ev_ite (fun h1 => ?_) (fun h1 => ?_))
  ·rw [h1, Bool.true_and, if_pos rfl]
   exact ev_now _
  ·rw [Bool.eq_false_iff.2 h1, Bool.false_and, if_neg (by decide)]
   exact ev_now _
theorem alt_impl (s : ByteArray) (hs : s.size ≤ 9223372036854775807) : Ev (fun k => impl_alternatives.f k s) ((patA s).map (List.map altP), patB s) := by
 unfold impl_alternatives.f patB patA
 refine ev_bind (printed_impl s hs 100) (ev_ite (fun h1 => ?_) (fun h1 => ?_))
 ·have h2 := prL_size h1
  rw [h1, Bool.true_and, if_pos rfl]
  exact ev_pos (by omega) (ev_now _)
 ·rw [Bool.eq_false_iff.2 h1, Bool.false_and, if_neg (by decide)]
  exact ev_now _
theorem pat_spec (s : ByteArray) (hs : s.size ≤ 9223372036854775807) : Ev (fun k => spec_GoodPattern.f k s) (patB s) := by
 unfold spec_GoodPattern.f
 exact ev_bind (alt_spec s hs) (ev_now _)
theorem pat_impl (s : ByteArray) (hs : s.size ≤ 9223372036854775807) : Ev (fun k => impl_GoodPattern.f k s) (patB s) := by
 unfold impl_GoodPattern.f
 exact ev_bind (alt_impl s hs) (ev_now _)
end Go.Proofs.YtlibcibpflfboaaDoor.U
namespace Go.Proofs.YtlibcibpflfboaaDoor.U
open Go.RowKit Go.Proofs.YtlibcibpflfboaaDoor.Pr Go.Proofs.YtlibcibpflfboaaDoorW.PrintWords Go.Proofs.YtlibcibpflfboaaDoorW.PrintLast Go.Proofs.YtlibcibpflfboaaDoorW.PrintMore
set_option linter.unusedVariables false
set_option linter.unusedSimpArgs false
theorem any_all_Matcher {α : Type} (P : Nat → α → Option Bool) (p : α → Bool) : ∀ l : List α, (∀ x ∈ l, Ev (fun k => P k x) (p x)) → ∃ K, ∀ k, K ≤ k → ∀ x ∈ l, P k x = some (p x) := by
 intro l
 induction l with
 | nil => intro _; exact ⟨0, fun _ _ _ h => by cases h⟩
 | cons y l ih =>
  intro h
  obtain ⟨K, h1⟩ := ih (fun x hx => h x (List.mem_cons_of_mem _ hx))
  obtain ⟨K', h2⟩ := h y (List.mem_cons_self ..)
  refine ⟨max K K', fun k hk x hx => ?_⟩
  rcases List.mem_cons.1 hx with rfl | hx
  ·exact h2 k (by omega)
  ·exact h1 k (by omega) x hx
theorem any_at_Matcher (P : S35 → Option Bool) (p : S35 → Bool) (l : List S35) (hl : l.length ≤ 9223372036854775807) (h : ∀ x ∈ l, P x = some (p x)) : ∀ (d k i : Nat), i + d = l.length → d < k → ∃ r, impl_Matcher_46.l0 P l k (i : Int) = some r ∧ decide (0 ≤ r) = (l.drop i).any p := by
 have hrd : ∀ (i : Nat) (h : i < l.length), rd_T35 l (i : Int) = l[i] := fun i h => getD_lt h
 intro d
 induction d with
 | zero =>
  intro k i h1 h2
  obtain ⟨k, rfl⟩ : ∃ m, k = m + 1 := ⟨k - 1, by omega⟩
  simp only [impl_Matcher_46.l0]
  rw [if_neg (by omega), List.drop_eq_nil_of_le (by omega), List.any_nil]
  exact ⟨-1, rfl, rfl⟩
 | succ d ih =>
  intro k i h1 h2
  obtain ⟨k, rfl⟩ : ∃ m, k = m + 1 := ⟨k - 1, by omega⟩
  have hi : i < l.length := by omega
  have hp : P (⟨l[i].f0, l[i].f1, l[i].f2⟩ : S35) = some (p l[i]) := h l[i] (List.getElem_mem hi)
  simp only [impl_Matcher_46.l0]
  rw [if_pos (by omega), if_pos (by omega), hrd i hi, hp, Option.bind_some, List.drop_eq_getElem_cons hi, List.any_cons, w64n hi (by omega)]
  by_cases hq : p l[i] = true
  ·rw [if_pos hq, hq, Bool.true_or]
   exact ⟨i, rfl, decide_eq_true (by omega)⟩
  ·rw [if_neg hq, Bool.eq_false_iff.2 hq, Bool.false_or]
   exact ih k (i + 1) (by omega) (by omega)
theorem any_Matcher (P : Nat → S35 → Option Bool) (p : S35 → Bool) (l : List S35) (hl : l.length ≤ 9223372036854775807) (h : ∀ x ∈ l, Ev (fun k => P k x) (p x)) : Ev (fun k => impl_Matcher_35.f k (P k) l) (l.any p) := by
 obtain ⟨K, hK⟩ := any_all_Matcher P p l h
 refine ⟨max K (l.length + 1), fun k hk => ?_⟩
 obtain ⟨r, h1, h2⟩ := any_at_Matcher (P k) p l hl (hK k (by omega)) l.length k 0 (by omega) (by omega)
 have h3 : impl_Matcher_46.f k (P k) l = some r := h1
 show ((impl_Matcher_46.f k (P k) l).bind fun j => some (decide (0 ≤ j))) = some (l.any p)
 rw [h3, Option.bind_some, h2]
 rfl
end Go.Proofs.YtlibcibpflfboaaDoor.U
namespace Go.Proofs.YtlibcibpflfboaaDoor.U
open Go.RowKit Go.Proofs.YtlibcibpflfboaaDoor.Pr Go.Proofs.YtlibcibpflfboaaDoorW.PrintWords Go.Proofs.YtlibcibpflfboaaDoorW.PrintLast Go.Proofs.YtlibcibpflfboaaDoorW.PrintMore
set_option linter.unusedVariables false
set_option linter.unusedSimpArgs false
theorem eqMatcher (x : S35) : Ev (fun _ => laws_eqMatcher.f x.f0 x.f1 x.f2 x.f0 x.f1 x.f2) true := ev_eq (by simp [laws_eqMatcher.f])
end Go.Proofs.YtlibcibpflfboaaDoor.U
namespace Go.Proofs.YtlibcibpflfboaaDoor.U
open Go.RowKit Go.Proofs.YtlibcibpflfboaaDoor.Pr Go.Proofs.YtlibcibpflfboaaDoorW.PrintWords Go.Proofs.YtlibcibpflfboaaDoorW.PrintLast Go.Proofs.YtlibcibpflfboaaDoorW.PrintMore
set_option linter.unusedVariables false
set_option linter.unusedSimpArgs false
theorem markText_l (m : Nat) : ∀ (c : Int) (s : ByteArray), 0 ≤ c → c < 10 ^ m → c ≤ 9223372036854775807 → s.size + m < 1000 → ∃ r, Ev (fun k => laws_markText.l0 k c s) r := by
 induction m with
 | zero =>
  intro c s h0 h1 _ h2
  simp at h1
  have hs : 1 + s.size ≤ 9223372036854775807 := by omega
  exact ⟨_, ev_step (fun _ => laws_markText.l0.eq_2 ..) (ev_neg (by omega) (ev_pos hs (ev_now _)))⟩
 | succ m ih =>
  intro c s h0 h1 h1' h2
  by_cases hc : c > 0
  ·rw [Int.pow_succ] at h1
   have e : wrap64 (Int.tdiv c 10) = c / 10 := by rw [Int.tdiv_eq_ediv_of_nonneg h0, w64 (by omega) (by omega)]
   have hz : ∀ x : Int, (strOfNums [x]).size = 1 := fun x => strOfNums_size [x]
   obtain ⟨r, hr⟩ := ih (c / 10) (strOfNums [wrap64 (48 + Int.tmod c 10) % 256] ++ s) (by omega) (by generalize (10 : Int) ^ m = p at h1 ⊢; omega) (by omega) (by rw [ByteArray.size_append, hz]; omega)
   refine ⟨r, ev_step (fun _ => laws_markText.l0.eq_2 ..) (ev_pos hc (ev_some (ev_pos (by rw [hz]; omega) ?_)))⟩
   rw [e]
   exact hr
  ·have hs : 1 + s.size ≤ 9223372036854775807 := by omega
   exact ⟨_, ev_step (fun _ => laws_markText.l0.eq_2 ..) (ev_neg hc (ev_pos hs (ev_now _)))⟩
theorem markText (c : Int) (h0 : 0 < c) (h1 : c ≤ 9223372036854775807) : ∃ r, Ev (fun k => laws_markText.f k c) r := by
 obtain ⟨r, hr⟩ := markText_l 19 c ⟨#[]⟩ (by omega) (Int.lt_of_le_of_lt h1 (by decide)) h1 (by decide)
 refine ⟨r, ?_⟩
 unfold laws_markText.f
 exact ev_neg (by omega) hr
end Go.Proofs.YtlibcibpflfboaaDoor.U
namespace Go.Proofs.YtlibcibpflfboaaDoor.U
open Go.RowKit Go.Proofs.YtlibcibpflfboaaDoor.Pr Go.Proofs.YtlibcibpflfboaaDoorW.PrintWords Go.Proofs.YtlibcibpflfboaaDoorW.PrintLast Go.Proofs.YtlibcibpflfboaaDoorW.PrintMore
set_option linter.unusedVariables false
set_option linter.unusedSimpArgs false
theorem eqMatcherS (l : List (S35)) (hl : l.length ≤ 1048576) : Ev (fun k => laws_eqMatcherS.f k l l) true := by
 unfold laws_eqMatcherS.f
 refine ev_pos rfl ?_
 refine up_ind l.length (fun i => Ev (fun k => laws_eqMatcherS.l0 k l l (i : Int)) true) ?_ ?_ 0 (by omega)
 ·refine ev_step (fun _ => laws_eqMatcherS.l0.eq_2 ..) ?_
  refine ev_neg (by omega) ?_
  exact ev_now _
 ·intro i h ih
  refine ev_step (fun _ => laws_eqMatcherS.l0.eq_2 ..) ?_
  repeat (first | (with_reducible refine ev_pos (by first | omega | rfl | decide) ?_) | (with_reducible refine ev_neg (by first | omega | decide) ?_))
  refine ev_bind (eqMatcher _) ?_
  refine ev_pos rfl ?_
  rw [w64n h (by omega)]
  exact ih
theorem markMatcherS (l : List (S35)) (hl : l.length ≤ 1048576) (c : Int) (h0 : 0 < c) (h1 : c ≤ 4611686018427387904) : ∃ y c', Ev (fun k => laws_markMatcherS.f k l c) (c', y) ∧ Ev (fun k => laws_heldMatcherS.f k y c) c' ∧ c ≤ c' ∧ c' ≤ c + 3 * l.length := by
 have key := up_ind l.length (fun i => ∀ (x : List (S35)) (c : Int), x.length = l.length → 0 < c → c + 3 * (l.length - i : Nat) ≤ 9000000000000000000 → ∃ y c', Ev (fun k => laws_markMatcherS.l0 k x c (i : Int)) (c', y) ∧ Ev (fun k => laws_heldMatcherS.l0 k y c (i : Int)) c' ∧ y.length = l.length ∧ (∀ j, j < i → y[j]? = x[j]?) ∧ c ≤ c' ∧ c' ≤ c + 3 * (l.length - i : Nat)) ?d ?s 0 (by omega) l c rfl h0 (by omega)
 case d =>
  intro x c hx h0 h1
  refine ⟨x, c, ev_step (fun _ => laws_markMatcherS.l0.eq_2 ..) (ev_neg (by omega) (ev_now _)), ev_step (fun _ => laws_heldMatcherS.l0.eq_2 ..) (ev_neg (by omega) (ev_now _)), hx, fun _ _ => rfl, by omega, by omega⟩
 case s =>
  intro i h ih x c hx h0 h1
  obtain ⟨s0, es0⟩ := markText (c) (by omega) (by omega)
  obtain ⟨s2, es2⟩ := markText (c + 2) (by omega) (by omega)
  have w1 : wrap64 (c + 1) = c + 1 := (w64 (by omega) (by omega)).trans (by omega)
  have w2 : wrap64 ((c + 1) + 1) = c + 2 := (w64 (by omega) (by omega)).trans (by omega)
  have w3 : wrap64 ((c + 2) + 1) = c + 3 := (w64 (by omega) (by omega)).trans (by omega)
  have wi : wrap64 ((i : Int) + 1) = ((i + 1 : Nat) : Int) := w64n h (by omega)
  have hset : ∀ a, rd_T35 (x.set i a) (i : Int) = a := fun a => by rw [show rd_T35 (x.set i a) (i : Int) = (x.set i a)[i]'(by simp; omega) from getD_lt (by simp; omega)]; simp
  obtain ⟨y, c', e1, e2, hy, hj, q1, q2⟩ := ih (x.set i ⟨s0, (c + 1), s2⟩) (c + 3) (by simp [hx]) (by omega) (by omega)
  refine ⟨y, c', ev_step (fun _ => laws_markMatcherS.l0.eq_2 ..) ?_, ev_step (fun _ => laws_heldMatcherS.l0.eq_2 ..) ?_, hy, fun j h' => ?_, by omega, by omega⟩
  ·simp only [w1, w2, w3, wi, Int.toNat_natCast]
   repeat (first | (with_reducible refine ev_pos (by first | omega | rfl | decide) ?_) | (with_reducible refine ev_some ?_) | (with_reducible refine ev_bind es0 ?_) | (with_reducible refine ev_bind es2 ?_))
   simp only [hset, List.set_set]
   exact e1
  ·have ey : rd_T35 y (i : Int) = ⟨s0, (c + 1), s2⟩ := by
    have := hj i (by omega)
    rw [List.getElem?_set_self (by omega), List.getElem?_eq_getElem (by omega)] at this
    rw [show rd_T35 y (i : Int) = y[i]'(by omega) from getD_lt (by omega)]
    exact Option.some.inj this
   simp only [ey, w1, w2, w3, wi]
   repeat (first | (with_reducible refine ev_pos (by first | omega | rfl | decide) ?_) | (with_reducible refine ev_bind es0 ?_) | (with_reducible refine ev_bind es2 ?_))
   exact e2
  ·rw [hj j (by omega), List.getElem?_set_ne (by omega)]
 obtain ⟨y, c', e1, e2, _, _, q1, q2⟩ := key
 exact ⟨y, c', e1, e2, q1, by omega⟩
end Go.Proofs.YtlibcibpflfboaaDoor.U
namespace Go.Proofs.YtlibcibpflfboaaDoor.U
open Go.RowKit Go.Proofs.YtlibcibpflfboaaDoor.Pr Go.Proofs.YtlibcibpflfboaaDoorW.PrintWords Go.Proofs.YtlibcibpflfboaaDoorW.PrintLast Go.Proofs.YtlibcibpflfboaaDoorW.PrintMore
set_option linter.unusedVariables false
set_option linter.unusedSimpArgs false
/-- What both programs' goodMatcher answer. -/
def matchB (x : S35) : Bool := nameL (Y x.f0) && (decide (1 ≤ x.f1) && (decide (x.f1 ≤ 4) && (prL 100 (Y x.f2) && (decide (x.f1 < 3) || patB x.f2))))
def fitM (l : List S35) : Prop := ∀ x ∈ l, x.f0.size ≤ 9223372036854775807 ∧ x.f2.size ≤ 9223372036854775807
def matchesB (l : List S35) : Bool := decide (l.length ≤ 10) && l.all matchB
theorem matcher_impl (x : S35) (h0 : x.f0.size ≤ 9223372036854775807) (h2 : x.f2.size ≤ 9223372036854775807) : Ev (fun k => impl_goodMatcher.f k x.f0 x.f1 x.f2) (matchB x) := by
 unfold impl_goodMatcher.f matchB
 refine ev_bind (name_impl _ h0) (ev_ite (fun h1 => ?_) (fun h1 => ?_))
 ·rw [h1, Bool.true_and]
  refine ev_ite (fun h3 => ?_) (fun h3 => ev_ite (fun h4 => ?_) (fun h4 => ?_))
  ·rw [decide_eq_false (show ¬ 1 ≤ x.f1 by omega), Bool.false_and]; exact ev_now _
  ·rw [decide_eq_false (show ¬ x.f1 ≤ 4 by omega), Bool.false_and, Bool.and_false]; exact ev_now _
  ·rw [decide_eq_true (show 1 ≤ x.f1 by omega), decide_eq_true (show x.f1 ≤ 4 by omega), Bool.true_and, Bool.true_and]
   refine ev_bind (printed_impl _ h2 100) (ev_ite (fun h5 => ?_) (fun h5 => ?_))
   ·rw [h5, Bool.true_and]
    refine ev_ite (fun h6 => ?_) (fun h6 => ?_)
    ·rw [decide_eq_true h6, Bool.true_or]; exact ev_now _
    ·rw [decide_eq_false h6, Bool.false_or]; exact ev_bind (pat_impl _ h2) (ev_now _)
   ·rw [Bool.eq_false_iff.2 h5, Bool.false_and]; exact ev_now _
 ·rw [Bool.eq_false_iff.2 h1, Bool.false_and]; exact ev_now _
theorem goodMatchers_impl (l : List S35) (hl : l.length ≤ 9223372036854775807) (hf : fitM l) : Ev (fun k => impl_GoodMatchers.f k l) (matchesB l) := by
 unfold impl_GoodMatchers.f matchesB
 refine ev_ite (fun h => ?_) (fun h => ?_)
 ·rw [decide_eq_true (show l.length ≤ 10 by omega), Bool.true_and]
  have h1 := any_Matcher (fun k x => (impl_goodMatcher.f k x.f0 x.f1 x.f2).bind fun b => some (!b)) (fun x => !(matchB x)) l hl (fun x hx => ev_bind (matcher_impl x (hf x hx).1 (hf x hx).2) (ev_now _))
  rw [show l.all matchB = !(l.any fun x => !(matchB x)) from by rw [List.not_any_eq_all_not]; simp]
  exact ev_bind h1 (ev_now _)
 ·rw [decide_eq_false (show ¬ l.length ≤ 10 by omega), Bool.false_and]; exact ev_now _
theorem goodMatchers_spec (l : List S35) (hl : l.length ≤ 9223372036854775807) (hf : fitM l) : Ev (fun k => spec_GoodMatchers.f k l) (matchesB l) := by
 unfold spec_GoodMatchers.f matchesB
 have hrd : ∀ (i : Nat) (h : i < l.length), rd_T35 l (i : Int) = l[i] := fun i h => getD_lt h
 refine ev_ite (fun h => ?_) (fun h => ?_)
 ·rw [decide_eq_false (show ¬ l.length ≤ 10 by omega), Bool.false_and]; exact ev_now _
 ·rw [decide_eq_true (show l.length ≤ 10 by omega), Bool.true_and]
  refine up_ind l.length (fun i => Ev (fun k => spec_GoodMatchers.l0 k l (l.length : Int) (i : Int)) ((l.drop i).all matchB)) ?_ ?_ 0 (by omega)
  ·rw [List.drop_length]
   exact ev_step (fun _ => spec_GoodMatchers.l0.eq_2 ..) (ev_neg (by omega) (ev_now _))
  ·intro i h ih
   obtain ⟨h0, h2⟩ := hf l[i] (List.getElem_mem h)
   refine ev_step (fun _ => spec_GoodMatchers.l0.eq_2 ..) (ev_pos (by omega) (ev_pos (by omega) (ev_pos (by omega) ?_)))
   rw [hrd i h, List.drop_eq_getElem_cons h, List.all_cons, w64n h (by omega)]
   unfold matchB
   refine ev_bind (name_spec _ h0) (ev_ite (fun h1 => ?_) (fun h1 => ?_))
   ·rw [h1, Bool.true_and]
    refine ev_ite (fun h3 => ?_) (fun h3 => ev_ite (fun h4 => ?_) (fun h4 => ev_ite (fun h5 => ?_) (fun h5 => ?_)))
    ·rw [decide_eq_false (show ¬ 1 ≤ l[i].f1 by omega), Bool.false_and, Bool.false_and]; exact ev_now _
    ·rw [decide_eq_false (show ¬ l[i].f1 ≤ 4 by omega), Bool.false_and, Bool.and_false, Bool.false_and]; exact ev_now _
    ·unfold prL
     rw [Y_len, decide_eq_false (show ¬ l[i].f2.size ≤ 100 by omega), Bool.false_and, Bool.false_and, Bool.and_false, Bool.and_false, Bool.false_and]; exact ev_now _
    ·rw [decide_eq_true (show 1 ≤ l[i].f1 by omega), decide_eq_true (show l[i].f1 ≤ 4 by omega), Bool.true_and, Bool.true_and]
     unfold prL
     rw [Y_len, decide_eq_true (show l[i].f2.size ≤ 100 by omega), Bool.true_and]
     refine ev_bind (printed_spec _ h2) (ev_ite (fun h6 => ?_) (fun h6 => ?_))
     ·rw [h6, Bool.true_and]
      refine ev_ite (fun h7 => ?_) (fun h7 => ?_)
      ·rw [decide_eq_false (show ¬ l[i].f1 < 3 by omega), Bool.false_or]
       refine ev_bind (pat_spec _ h2) (ev_ite (fun h8 => ?_) (fun h8 => ?_))
       ·rw [h8, Bool.true_and]; exact ih
       ·rw [Bool.eq_false_iff.2 h8, Bool.false_and]; exact ev_now _
      ·rw [decide_eq_true (show l[i].f1 < 3 by omega), Bool.true_or, Bool.true_and]; exact ih
     ·rw [Bool.eq_false_iff.2 h6, Bool.false_and, Bool.false_and]; exact ev_now _
   ·rw [Bool.eq_false_iff.2 h1, Bool.false_and, Bool.false_and]; exact ev_now _
end Go.Proofs.YtlibcibpflfboaaDoor.U
namespace Go.Proofs.YtlibcibpflfboaaDoor.U
open Go.RowKit Go.Proofs.YtlibcibpflfboaaDoor.Pr Go.Proofs.YtlibcibpflfboaaDoorW.PrintWords Go.Proofs.YtlibcibpflfboaaDoorW.PrintLast Go.Proofs.YtlibcibpflfboaaDoorW.PrintMore
set_option linter.unusedVariables false
set_option linter.unusedSimpArgs false
abbrev SIGNS : List ByteArray := [(⟨#[]⟩ : ByteArray), (⟨#[61]⟩ : ByteArray), (⟨#[33, 61]⟩ : ByteArray), (⟨#[61, 126]⟩ : ByteArray), (⟨#[33, 126]⟩ : ByteArray)]
def sg (x : S35) : ByteArray := rdOf ByteArray.empty SIGNS x.f1
theorem sg_size (x : S35) (h : 1 ≤ x.f1 ∧ x.f1 ≤ 4) : (sg x).size ≤ 2 := by
 unfold sg
 rcases (by omega : x.f1 = 1 ∨ x.f1 = 2 ∨ x.f1 = 3 ∨ x.f1 = 4) with e | e | e | e <;> rw [e] <;> decide
def goodMx (x : S35) : Prop := x.f0.size ≤ 40 ∧ x.f2.size ≤ 100 ∧ 1 ≤ x.f1 ∧ x.f1 ≤ 4
theorem matches_all {l : List S35} (h : matchesB l = true) : l.length ≤ 10 ∧ ∀ x ∈ l, goodMx x := by
 unfold matchesB at h
 rw [Bool.and_eq_true, decide_eq_true_eq, List.all_eq_true] at h
 refine ⟨h.1, fun x hx => ?_⟩
 have h1 := h.2 x hx
 simp only [matchB, nameL, prL, Bool.and_eq_true, decide_eq_true_eq, Y_len] at h1
 exact ⟨h1.1.1.1.2, h1.2.2.2.1.1, h1.2.1, h1.2.2.1⟩
def itemM (x : S35) : List UInt8 := Y x.f0 ++ (Y (sg x) ++ quoteL (Y x.f2))
theorem itemM_len (x : S35) (h : goodMx x) : (itemM x).length ≤ 300 := by
 obtain ⟨h0, h2, h1⟩ := h
 have := quoteL_len (Y x.f2)
 have h3 := sg_size x h1
 unfold itemM
 rw [List.length_append, List.length_append, Y_len, Y_len]
 rw [Y_len] at this
 omega
theorem itemM_eq (x : S35) : x.f0 ++ sg x ++ bs (quoteL (Y x.f2)) = bs (itemM x) := Y_inj (by rw [Y_app, Y_app, Y_bs, Y_bs]; unfold itemM; rw [List.append_assoc])
def tailM : Bool → List S35 → List UInt8
 | _, [] => [125]
 | b, x :: xs => (if b = true then [] else [44]) ++ (itemM x ++ tailM false xs)
/-- Matchers' text. -/
def textM (l : List S35) : List UInt8 := 123 :: tailM true l
theorem joinTailM_len (B : Nat) : ∀ r : List (List UInt8), (∀ x ∈ r, x.length ≤ B) → (Lib.joinTail [44] r).length ≤ r.length * (B + 1) := by
 intro r
 induction r with
 | nil => intro _; simp [Lib.joinTail]
 | cons x r ih =>
  intro h
  have h1 := ih (fun y hy => h y (List.mem_cons_of_mem _ hy))
  have h2 := h x (List.mem_cons_self ..)
  unfold Lib.joinTail at h1 ⊢
  rw [List.map_cons, List.flatten_cons, List.length_append, List.length_append, List.length_singleton, List.length_cons, Nat.add_mul, Nat.one_mul]
  omega
theorem joinTail_itemsM : ∀ l : List S35, Lib.joinTail [44] (l.map itemM) ++ [125] = tailM false l := by
 intro l
 induction l with
 | nil => rfl
 | cons x l ih =>
  simp only [tailM]
  rw [← ih]
  simp [Lib.joinTail]
theorem join_itemsM (l : List S35) : Lib.join (l.map itemM) [44] ++ [125] = tailM true l := by
 cases l with
 | nil => rfl
 | cons x l =>
  rw [List.map_cons, Lib.join_cons, List.append_assoc, joinTail_itemsM]
  rfl
theorem joinM_len (l : List S35) (hn : l.length ≤ 10) (hb : ∀ x ∈ l, goodMx x) : (Lib.join (l.map itemM) [44]).length ≤ 6321 := by
 cases l with
 | nil => simp [Lib.join_nil]
 | cons x l =>
  have h1 := joinTailM_len 300 (l.map itemM) (fun y hy => by
   obtain ⟨z, hz, rfl⟩ := List.mem_map.1 hy
   exact itemM_len z (hb z (List.mem_cons_of_mem _ hz)))
  have h2 := itemM_len x (hb x (List.mem_cons_self ..))
  rw [List.length_map] at h1
  rw [List.length_cons] at hn
  rw [List.map_cons, Lib.join_cons, List.length_append]
  omega
theorem matcherText_impl (x : S35) (hg : goodMx x) : Ev (fun k => impl_matcherText.f k x.f0 x.f1 x.f2) (bs (itemM x)) := by
 obtain ⟨b1, b2, b3, b4⟩ := hg
 have ql := quoteL_len (Y x.f2)
 rw [Y_len] at ql
 have sl := sg_size x ⟨b3, b4⟩
 unfold impl_matcherText.f
 rw [show rdOf ByteArray.empty lT0 x.f1 = sg x from rfl]
 refine ev_pos (by omega) (ev_pos (by omega) (ev_pos (by omega) (ev_bind (quote_impl _ (by omega)) (ev_pos (by rw [ByteArray.size_append, bs_size]; omega) ?_))))
 rw [itemM_eq]
 exact ev_now _
theorem textM_impl_l (l : List S35) (hn : l.length ≤ 10) (hb : ∀ x ∈ l, goodMx x) : Ev (fun k => impl_MatchersText.l0 k [] l (l.length : Int) 0) (bs (textM l)) := by
 have hrd : ∀ (i : Nat) (h : i < l.length), rd_T35 l (i : Int) = l[i] := fun i h => getD_lt h
 have key := up_ind l.length (fun i => Ev (fun k => impl_MatchersText.l0 k ((l.take i).map fun x => bs (itemM x)) l (l.length : Int) (i : Int)) (bs (textM l))) ?_ ?_ 0 (by omega)
 ·exact key
 ·rw [List.take_length]
  refine ev_step (fun _ => impl_MatchersText.l0.eq_2 ..) (ev_neg (by omega) ?_)
  have e1 : ((l.map fun x => bs (itemM x)).map (·.data.toList)) = l.map itemM := by rw [List.map_map]; exact congrArg (fun f => l.map f) (funext fun x => Y_bs _)
  have e2 := joinM_len l hn hb
  refine ev_bind (a := bs (Lib.join (l.map itemM) [44])) (ev_eq ?_) ?_
  ·unfold strings_Join.f
   rw [e1]
   exact if_pos ⟨by rw [List.length_map]; omega, by show (Lib.join (l.map itemM) [44]).length ≤ _; omega⟩
  ·refine ev_pos (by rw [bs_size]; omega) ?_
   rw [show (⟨#[123]⟩ : ByteArray) = bs [123] from rfl, show (⟨#[125]⟩ : ByteArray) = bs [125] from rfl, bs_app, bs_app, bs_size]
   refine ev_pos (by rw [List.length_append, List.length_singleton]; omega) ?_
   rw [List.append_assoc, join_itemsM]
   exact ev_now _
 ·intro i h ih
  refine ev_step (fun _ => impl_MatchersText.l0.eq_2 ..) (ev_pos (by omega) (ev_pos (by omega) (ev_pos (by omega) ?_)))
  rw [hrd i h, w64n h (by omega)]
  refine ev_bind (matcherText_impl _ (hb l[i] (List.getElem_mem h))) (ev_pos (by rw [List.length_map, List.length_take]; omega) ?_)
  rw [List.take_succ_eq_append_getElem h, List.map_append] at ih
  exact ih
def textOfM (l : List S35) : ByteArray := if matchesB l = true then bs (textM l) else bs []
theorem textM_impl (l : List S35) (hl : l.length ≤ 9223372036854775807) (hf : fitM l) : Ev (fun k => impl_MatchersText.f k l) (textOfM l) := by
 unfold impl_MatchersText.f textOfM
 refine ev_bind (goodMatchers_impl l hl hf) (ev_ite (fun h => ?_) (fun h => ?_))
 ·obtain ⟨h1, h2⟩ := matches_all h
  rw [if_pos h]
  exact textM_impl_l l h1 h2
 ·rw [if_neg h]
  exact ev_now _
end Go.Proofs.YtlibcibpflfboaaDoor.U
namespace Go.Proofs.YtlibcibpflfboaaDoor.U
open Go.RowKit Go.Proofs.YtlibcibpflfboaaDoor.Pr Go.Proofs.YtlibcibpflfboaaDoorW.PrintWords Go.Proofs.YtlibcibpflfboaaDoorW.PrintLast Go.Proofs.YtlibcibpflfboaaDoorW.PrintMore
set_option linter.unusedVariables false
set_option linter.unusedSimpArgs false
/-- A sign and a quote at the front: which sign, and what stands behind the quote. -/
def sgnQ (D : List UInt8) : Option (Int × List UInt8) :=
 if D.take 3 = [33, 126, 34] then some (4, D.drop 3) else if D.take 3 = [61, 126, 34] then some (3, D.drop 3) else if D.take 3 = [33, 61, 34] then some (2, D.drop 3) else if D.take 2 = [61, 34] then some (1, D.drop 2) else none
/-- One matcher at the front: it, and what stands behind. -/
def itmX (r : List UInt8) : Option (S35 × List UInt8) := match sgnQ (r.drop (wl r)) with
 | none => none
 | some (op, q) => (unq q).map fun p => (⟨bs (r.take (wl r)), op, bs p.1⟩, p.2)
theorem sgnQ_round {D q : List UInt8} {op : Int} (h : sgnQ D = some (op, q)) : D = Y (rdOf ByteArray.empty SIGNS op) ++ 34 :: q ∧ 1 ≤ op ∧ op ≤ 4 := by
 unfold sgnQ at h
 have td := fun n => (List.take_append_drop n D).symm
 split at h
 ·rename_i e
  have := td 3
  rw [e] at this
  cases h
  exact ⟨this, by decide, by decide⟩
 split at h
 ·rename_i e
  have := td 3
  rw [e] at this
  cases h
  exact ⟨this, by decide, by decide⟩
 split at h
 ·rename_i e
  have := td 3
  rw [e] at this
  cases h
  exact ⟨this, by decide, by decide⟩
 split at h
 ·rename_i e
  have := td 2
  rw [e] at this
  cases h
  exact ⟨this, by decide, by decide⟩
 ·cases h
theorem itmX_none {r : List UInt8} (h : sgnQ (r.drop (wl r)) = none) : itmX r = none := by unfold itmX; rw [h]
theorem itmX_some {r q : List UInt8} {op : Int} (h : sgnQ (r.drop (wl r)) = some (op, q)) : itmX r = (unq q).map fun p => (⟨bs (r.take (wl r)), op, bs p.1⟩, p.2) := by unfold itmX; rw [h]
theorem itmX_round {r q : List UInt8} {x : S35} (h : itmX r = some (x, q)) : r = itemM x ++ q ∧ 1 ≤ x.f1 ∧ x.f1 ≤ 4 := by
 cases e : sgnQ (r.drop (wl r)) with
 | none => rw [itmX_none e] at h; cases h
 | some p =>
  obtain ⟨op, q'⟩ := p
  rw [itmX_some e] at h
  cases eu : unq q' with
  | none => rw [eu] at h; cases h
  | some p =>
   rw [eu] at h
   obtain ⟨v, q2⟩ := p
   cases h
   obtain ⟨h1, h2, h3⟩ := sgnQ_round e
   refine ⟨?_, h2, h3⟩
   rw [unq_round q'.length q' (Nat.le_refl _) v _ eu] at h1
   have h4 := List.take_append_drop (wl r) r
   rw [h1] at h4
   show r = Y (bs (r.take (wl r))) ++ (Y (rdOf ByteArray.empty SIGNS op) ++ quoteL (Y (bs v))) ++ q2
   rw [Y_bs, Y_bs]
   unfold quoteL
   simp only [List.append_assoc, List.cons_append, List.nil_append] at h4 ⊢
   exact h4.symm
theorem itmX_len {r q : List UInt8} {x : S35} (h : itmX r = some (x, q)) : q.length + 2 ≤ r.length ∧ x.f0.size ≤ r.length ∧ x.f2.size ≤ r.length := by
 have h1 := congrArg List.length (itmX_round h).1
 have h2 := escs_ge (Y x.f2)
 unfold itemM quoteL at h1
 simp only [List.length_append, List.length_cons, List.length_nil, Y_len] at h1 h2
 omega
/-- Matchers up to the brace: they, and what stands behind. -/
def itemsX : Nat → List UInt8 → List S35 → Option (List S35 × List UInt8)
 | 0, _, _ => none
 | n + 1, r, acc => match itmX r with
  | none => none
  | some (_, []) => none
  | some (x, c :: q) => if c = 125 then some (acc ++ [x], q) else if c = 44 then itemsX n q (acc ++ [x]) else none
theorem itemsX_none (n : Nat) {r : List UInt8} (acc : List S35) (h : itmX r = none) : itemsX (n + 1) r acc = none := by simp only [itemsX, h]
theorem itemsX_end (n : Nat) {r : List UInt8} (acc : List S35) {x : S35} (h : itmX r = some (x, [])) : itemsX (n + 1) r acc = none := by simp only [itemsX, h]
theorem itemsX_go (n : Nat) {r q : List UInt8} (acc : List S35) {x : S35} {c : UInt8} (h : itmX r = some (x, c :: q)) : itemsX (n + 1) r acc = if c = 125 then some (acc ++ [x], q) else if c = 44 then itemsX n q (acc ++ [x]) else none := by simp only [itemsX, h]
theorem itemsX_round : ∀ (n : Nat) (r : List UInt8) (acc l : List S35) (q : List UInt8), itemsX n r acc = some (l, q) → ∃ x xs, l = acc ++ x :: xs ∧ r = tailM true (x :: xs) ++ q ∧ ∃ q', itmX r = some (x, q') := by
 intro n
 induction n with
 | zero => intro r acc l q h; cases h
 | succ n ih =>
  intro r acc l q h
  cases e : itmX r with
  | none => rw [itemsX_none n acc e] at h; cases h
  | some p =>
   obtain ⟨x, q1⟩ := p
   cases q1 with
   | nil => rw [itemsX_end n acc e] at h; cases h
   | cons c q1 =>
    rw [itemsX_go n acc e] at h
    have rd := (itmX_round e).1
    by_cases h1 : c = 125
    ·rw [if_pos h1] at h
     cases h
     exact ⟨x, [], rfl, by rw [rd, h1]; simp [tailM], _, rfl⟩
    ·rw [if_neg h1] at h
     by_cases h2 : c = 44
     ·rw [if_pos h2] at h
      obtain ⟨y, ys, h3, h4, _⟩ := ih q1 _ l q h
      refine ⟨x, y :: ys, by rw [h3, List.append_assoc]; rfl, ?_, _, rfl⟩
      rw [rd, h2, h4]
      simp [tailM]
     ·rw [if_neg h2] at h; cases h
def okX (acc : List S35) : Prop := ∀ x ∈ acc, x.f0.size ≤ 1048576 ∧ x.f2.size ≤ 1048576
theorem okX_app {acc : List S35} {x : S35} (h : okX acc) (h1 : x.f0.size ≤ 1048576) (h2 : x.f2.size ≤ 1048576) : okX (acc ++ [x]) := by
 intro y hy
 rcases List.mem_append.1 hy with hy | hy
 ·exact h y hy
 ·rw [List.mem_singleton.1 hy]; exact ⟨h1, h2⟩
theorem okX_fit {acc : List S35} (h : okX acc) : fitM acc := fun x hx => by have := h x hx; omega
theorem preG (l : List UInt8) (p : ByteArray) : stringslite_HasPrefix.f (bs l) p = some (decide (l.take p.size = Y p)) := by
 unfold stringslite_HasPrefix.f
 rw [bs_size]
 by_cases h : p.size ≤ l.length
 ·rw [if_pos (by omega), if_pos (by omega), if_pos (by omega), Y_eq, Y_eq, Int.toNat_natCast, ext_take, Y_bs, Y_bs]
  congr 1
  rw [Bool.eq_iff_iff]
  simp
 ·rw [if_neg (by omega), decide_eq_false]
  intro e
  have := congrArg List.length e
  rw [List.length_take, Y_len] at this
  omega
theorem headG (l : List UInt8) (p : ByteArray) : spec_l2Head.f (bs l) p = some (decide (l.take p.size = Y p)) := preG l p
theorem cutG (l : List UInt8) (p : ByteArray) : strings_CutPrefix.f (bs l) p = some (if l.take p.size = Y p then (bs (l.drop p.size), true) else (bs l, false)) := by
 unfold strings_CutPrefix.f stringslite_CutPrefix.f
 rw [preG, Option.bind_some]
 by_cases h : l.take p.size = Y p
 ·have hl := congrArg List.length h
  rw [List.length_take, Y_len] at hl
  rw [if_pos (by simpa using h), bs_size, if_pos (by omega), if_pos (by omega), if_pos h, Int.toNat_natCast, ← bs_size l, ext_drop, Y_bs]
  rfl
 ·rw [if_neg (by simpa using h), if_neg h]
  rfl
/-- What takeMatcher tells behind a sign. -/
def tmR (n : ByteArray) (op : Int) : Option (List UInt8 × List UInt8) → ByteArray × Int × ByteArray × ByteArray × Bool
 | some (v, r) => (n, op, bs v, bs r, matchB ⟨n, op, bs v⟩)
 | none => (n, op, bs [], bs [], false)
theorem unq_len {l v r : List UInt8} (h : unq l = some (v, r)) : v.length ≤ l.length ∧ r.length < l.length := by
 have h1 := congrArg List.length (unq_round l.length l (Nat.le_refl _) v r h)
 have h2 := escs_ge v
 rw [List.length_append, List.length_cons] at h1
 omega
theorem tm_hit (D : List UInt8) (hD : D.length ≤ 1048576) (n : ByteArray) (hn : n.size ≤ 1048576) (i op : Int) (a : Int) (b : ByteArray) (hi : i < 4) (he : impl_takeMatcher.el i = op) (h0 : 0 ≤ op) (h1 : op < 5) (h : D.take (rdOf ByteArray.empty lT0 op).size = Y (rdOf ByteArray.empty lT0 op)) : Ev (fun k => impl_takeMatcher.l0 k (bs D) i n a b) (tmR n op (unqF (D.drop (rdOf ByteArray.empty lT0 op).size))) := by
 refine ev_step (fun _ => impl_takeMatcher.l0.eq_2 ..) (ev_pos hi ?_)
 rw [he]
 refine ev_pos h0 (ev_pos h1 (ev_bind (ev_eq (cutG _ _)) ?_))
 rw [if_pos h]
 have hl : (D.drop (rdOf ByteArray.empty lT0 op).size).length ≤ 1048576 := by rw [List.length_drop]; omega
 generalize D.drop (rdOf ByteArray.empty lT0 op).size = E at hl ⊢
 have uq := unquote_impl (bs E) (by rw [bs_size]; exact hl)
 rw [Y_bs] at uq
 refine ev_pos rfl (ev_bind uq ?_)
 cases eu : unqF E with
 | none => exact ev_neg (by simp [unI]) (ev_now _)
 | some p =>
  obtain ⟨v, r⟩ := p
  have hv : v.length ≤ E.length := by
   have h1 := congrArg List.length (unqF_round eu)
   have h2 := escs_ge v
   unfold quoteL at h1
   simp only [List.length_append, List.length_cons, List.length_nil] at h1
   omega
  exact ev_pos rfl (ev_bind (matcher_impl ⟨n, op, bs v⟩ (by show n.size ≤ _; omega) (by show (bs v).size ≤ _; rw [bs_size]; omega)) (ev_now _))
theorem tm_miss (D : List UInt8) (n : ByteArray) (i op j : Int) (hj : i + 1 = j) (hi0 : 0 ≤ i) (a : Int) (b : ByteArray) (R : ByteArray × Int × ByteArray × ByteArray × Bool) (hi : i < 4) (he : impl_takeMatcher.el i = op) (h0 : 0 ≤ op) (h1 : op < 5) (h : ¬ D.take (rdOf ByteArray.empty lT0 op).size = Y (rdOf ByteArray.empty lT0 op)) (e : Ev (fun k => impl_takeMatcher.l0 k (bs D) j n a b) R) : Ev (fun k => impl_takeMatcher.l0 k (bs D) i n a b) R := by
 refine ev_step (fun _ => impl_takeMatcher.l0.eq_2 ..) (ev_pos hi ?_)
 rw [he]
 refine ev_pos h0 (ev_pos h1 (ev_bind (ev_eq (cutG _ _)) ?_))
 rw [if_neg h, w64 (by omega) (by omega), hj]
 exact ev_neg (by simp) e
theorem unqF_no {c : UInt8} {q : List UInt8} (h : c ≠ 34) : unqF (c :: q) = none := by unfold unqF; exact if_neg h
theorem unqF_yes (q : List UInt8) : unqF (34 :: q) = unq q := by unfold unqF; exact if_pos rfl
theorem tm_l0 (D : List UInt8) (hD : D.length ≤ 1048576) (n : ByteArray) (hn : n.size ≤ 1048576) : ∃ R, Ev (fun k => impl_takeMatcher.l0 k (bs D) 0 n 0 (⟨#[]⟩ : ByteArray)) R ∧ (∀ op q, sgnQ D = some (op, q) → R = tmR n op (unq q)) ∧ (sgnQ D = none → R.2.2.2.2 = false) := by
 have m0 := tm_hit D hD n hn 0 2 0 ⟨#[]⟩ (by decide) rfl (by decide) (by decide)
 have m1 := tm_hit D hD n hn 1 3 0 ⟨#[]⟩ (by decide) rfl (by decide) (by decide)
 have m2 := tm_hit D hD n hn 2 4 0 ⟨#[]⟩ (by decide) rfl (by decide) (by decide)
 have m3 := tm_hit D hD n hn 3 1 0 ⟨#[]⟩ (by decide) rfl (by decide) (by decide)
 have td := fun n => (List.take_append_drop n D).symm
 by_cases h0 : D.take 2 = [33, 61]
 ·refine ⟨_, m0 h0, ?_⟩
  obtain ⟨E, hE⟩ : ∃ E, D = 33 :: 61 :: E := ⟨D.drop 2, by have := td 2; rw [h0] at this; exact this⟩
  subst hE
  show (∀ op q, _ → tmR n 2 (unqF E) = _) ∧ (_ → (tmR n 2 (unqF E)).2.2.2.2 = false)
  cases E with
  | nil => exact ⟨fun op q h => by simp [sgnQ] at h, fun _ => rfl⟩
  | cons c q =>
   by_cases hc : c = 34
   ·subst hc
    rw [unqF_yes]
    exact ⟨fun op q h => by simp [sgnQ] at h; obtain ⟨rfl, rfl⟩ := h; rfl, fun h => by simp [sgnQ] at h⟩
   ·rw [unqF_no hc]
    exact ⟨fun op q h => by simp [sgnQ, hc] at h, fun _ => rfl⟩
 by_cases h1 : D.take 2 = [61, 126]
 ·refine ⟨_, tm_miss D n 0 2 1 rfl (by decide) 0 ⟨#[]⟩ _ (by decide) rfl (by decide) (by decide) h0 (m1 h1), ?_⟩
  obtain ⟨E, hE⟩ : ∃ E, D = 61 :: 126 :: E := ⟨D.drop 2, by have := td 2; rw [h1] at this; exact this⟩
  subst hE
  show (∀ op q, _ → tmR n 3 (unqF E) = _) ∧ (_ → (tmR n 3 (unqF E)).2.2.2.2 = false)
  cases E with
  | nil => exact ⟨fun op q h => by simp [sgnQ] at h, fun _ => rfl⟩
  | cons c q =>
   by_cases hc : c = 34
   ·subst hc
    rw [unqF_yes]
    exact ⟨fun op q h => by simp [sgnQ] at h; obtain ⟨rfl, rfl⟩ := h; rfl, fun h => by simp [sgnQ] at h⟩
   ·rw [unqF_no hc]
    exact ⟨fun op q h => by simp [sgnQ, hc] at h, fun _ => rfl⟩
 by_cases h2 : D.take 2 = [33, 126]
 ·refine ⟨_, tm_miss D n 0 2 1 rfl (by decide) 0 ⟨#[]⟩ _ (by decide) rfl (by decide) (by decide) h0 (tm_miss D n 1 3 2 rfl (by decide) 0 ⟨#[]⟩ _ (by decide) rfl (by decide) (by decide) h1 (m2 h2)), ?_⟩
  obtain ⟨E, hE⟩ : ∃ E, D = 33 :: 126 :: E := ⟨D.drop 2, by have := td 2; rw [h2] at this; exact this⟩
  subst hE
  show (∀ op q, _ → tmR n 4 (unqF E) = _) ∧ (_ → (tmR n 4 (unqF E)).2.2.2.2 = false)
  cases E with
  | nil => exact ⟨fun op q h => by simp [sgnQ] at h, fun _ => rfl⟩
  | cons c q =>
   by_cases hc : c = 34
   ·subst hc
    rw [unqF_yes]
    exact ⟨fun op q h => by simp [sgnQ] at h; obtain ⟨rfl, rfl⟩ := h; rfl, fun h => by simp [sgnQ] at h⟩
   ·rw [unqF_no hc]
    exact ⟨fun op q h => by simp [sgnQ, hc] at h, fun _ => rfl⟩
 by_cases h3 : D.take 1 = [61]
 ·refine ⟨_, tm_miss D n 0 2 1 rfl (by decide) 0 ⟨#[]⟩ _ (by decide) rfl (by decide) (by decide) h0 (tm_miss D n 1 3 2 rfl (by decide) 0 ⟨#[]⟩ _ (by decide) rfl (by decide) (by decide) h1 (tm_miss D n 2 4 3 rfl (by decide) 0 ⟨#[]⟩ _ (by decide) rfl (by decide) (by decide) h2 (m3 h3))), ?_⟩
  obtain ⟨E, hE⟩ : ∃ E, D = 61 :: E := ⟨D.drop 1, by have := td 1; rw [h3] at this; exact this⟩
  subst hE
  show (∀ op q, _ → tmR n 1 (unqF E) = _) ∧ (_ → (tmR n 1 (unqF E)).2.2.2.2 = false)
  cases E with
  | nil => exact ⟨fun op q h => by simp [sgnQ] at h, fun _ => rfl⟩
  | cons c q =>
   have hc2 : c ≠ 126 := fun h => h1 (by rw [h]; rfl)
   by_cases hc : c = 34
   ·subst hc
    rw [unqF_yes]
    exact ⟨fun op q h => by simp [sgnQ] at h; obtain ⟨rfl, rfl⟩ := h; rfl, fun h => by simp [sgnQ] at h⟩
   ·rw [unqF_no hc]
    exact ⟨fun op q h => by simp [sgnQ, hc, hc2] at h, fun _ => rfl⟩
 ·refine ⟨_, tm_miss D n 0 2 1 rfl (by decide) 0 ⟨#[]⟩ _ (by decide) rfl (by decide) (by decide) h0 (tm_miss D n 1 3 2 rfl (by decide) 0 ⟨#[]⟩ _ (by decide) rfl (by decide) (by decide) h1 (tm_miss D n 2 4 3 rfl (by decide) 0 ⟨#[]⟩ _ (by decide) rfl (by decide) (by decide) h2 (tm_miss D n 3 1 4 rfl (by decide) 0 ⟨#[]⟩ _ (by decide) rfl (by decide) (by decide) h3 (ev_step (fun _ => impl_takeMatcher.l0.eq_2 ..) (ev_neg (by decide) (ev_now _)))))), ?_, fun _ => rfl⟩
  intro op q h
  have h4 := (sgnQ_round h).1
  unfold sgnQ at h
  have t3 : ∀ x y : UInt8, D.take 3 = [x, y, 34] → D.take 2 = [x, y] := fun x y e => by
   have := congrArg (List.take 2) e
   rw [List.take_take] at this
   exact this
  have t2 : D.take 2 = [61, 34] → D.take 1 = [61] := fun e => by
   have := congrArg (List.take 1) e
   rw [List.take_take] at this
   exact this
  rw [if_neg (fun e => h2 (t3 _ _ e)), if_neg (fun e => h1 (t3 _ _ e)), if_neg (fun e => h0 (t3 _ _ e)), if_neg (fun e => h3 (t2 e))] at h
  cases h
theorem tm_impl (r : List UInt8) (hr : r.length ≤ 1048576) : ∃ R, Ev (fun k => impl_takeMatcher.f k (bs r)) R ∧ (∀ x q, itmX r = some (x, q) → R = (x.f0, x.f1, x.f2, bs q, matchB x)) ∧ (itmX r = none → R.2.2.2.2 = false) := by
 have w := word_impl_l (bs r) (by rw [bs_size]; exact hr)
 rw [Y_bs] at w
 have hw := wl_le r
 obtain ⟨R, e, h1, h2⟩ := tm_l0 (r.drop (wl r)) (by rw [List.length_drop]; omega) (bs (r.take (wl r))) (by rw [bs_size, List.length_take]; omega)
 refine ⟨R, by unfold impl_takeMatcher.f; exact ev_bind w e, ?_, ?_⟩
 ·intro x q h
  cases es : sgnQ (r.drop (wl r)) with
  | none => rw [itmX_none es] at h; cases h
  | some p =>
   obtain ⟨op, q'⟩ := p
   rw [itmX_some es] at h
   rw [h1 op q' es]
   cases eu : unq q' with
   | none => rw [eu] at h; cases h
   | some p =>
    rw [eu] at h
    obtain ⟨v, q2⟩ := p
    cases h
    rfl
 ·intro h
  cases es : sgnQ (r.drop (wl r)) with
  | none => exact h2 es
  | some p =>
   obtain ⟨op, q'⟩ := p
   rw [itmX_some es] at h
   rw [h1 op q' es]
   cases eu : unq q' with
   | none => rfl
   | some p => rw [eu] at h; cases h
def resIX : Option (List S35 × List UInt8) → List S35 × ByteArray × Bool
 | some (l, q) => if l.all matchB = true then (l, bs q, matchesB l) else ([], bs [], false)
 | none => ([], bs [], false)
theorem resIX_bad {o : Option (List S35 × List UInt8)} (h : ∀ l q, o = some (l, q) → ∃ x ∈ l, ¬ matchB x = true) : resIX o = ([], bs [], false) := by
 cases o with
 | none => rfl
 | some p =>
  obtain ⟨l, q⟩ := p
  obtain ⟨x, hx, hb⟩ := h l q rfl
  exact if_neg (fun h2 => hb (List.all_eq_true.1 h2 x hx))
theorem lx_close (q : List UInt8) (acc : List S35) (hA : okX acc) (hg : acc.all matchB = true) (hl : acc.length ≤ 2097152) : Ev (fun k => impl_takeMatchers.l0 k (bs (125 :: q)) acc) (resIX (some (acc, q))) := by
 have : resIX (some (acc, q)) = (acc, bs q, matchesB acc) := if_pos hg
 rw [this]
 refine ev_step (fun _ => impl_takeMatchers.l0.eq_2 ..) (ev_bind (ev_eq (hasPre_ (125 :: q) 125)) (ev_pos (by simp) (ev_pos (by rw [bs_size, List.length_cons]; omega) (ev_bind (goodMatchers_impl acc (by omega) (okX_fit hA)) ?_))))
 rw [ext_drop, Y_bs]
 exact ev_now _
theorem tx_impl : ∀ (n : Nat) (r : List UInt8) (acc : List S35), r.length < n → r.length ≤ 1048576 → acc.length + r.length ≤ 2097152 → okX acc → acc.all matchB = true → Ev (fun k => (impl_takeMatcher.f k (bs r)).bind fun bt => if bt.2.2.2.2 = true then (if acc.length < 3518437208883 then impl_takeMatchers.l0 k bt.2.2.2.1 (acc ++ [(⟨bt.1, bt.2.1, bt.2.2.1⟩ : S35)]) else none) else some (([] : List S35), (⟨#[]⟩ : ByteArray), false)) (resIX (itemsX n r acc)) := by
 intro n
 induction n with
 | zero => intro r acc h; omega
 | succ n ih =>
  intro r acc h hr ha hA hG
  obtain ⟨R, e, h1, h2⟩ := tm_impl r hr
  refine ev_bind e ?_
  cases ei : itmX r with
  | none =>
   rw [itemsX_none n acc ei]
   exact ev_neg (by rw [h2 ei]; decide) (ev_now _)
  | some p =>
   obtain ⟨x, q⟩ := p
   rw [h1 x q ei]
   obtain ⟨g1, g2, g3⟩ := itmX_len ei
   by_cases hb : matchB x = true
   ·refine ev_pos hb (ev_pos (by omega) ?_)
    show Ev (fun k => impl_takeMatchers.l0 k (bs q) (acc ++ [x])) _
    have hA2 := okX_app hA (x := x) (by omega) (by omega)
    have hG2 : (acc ++ [x]).all matchB = true := by rw [List.all_append, hG]; simp [hb]
    have hlen : (acc ++ [x]).length = acc.length + 1 := by simp
    cases q with
    | nil =>
     rw [itemsX_end n acc ei]
     exact ev_step (fun _ => impl_takeMatchers.l0.eq_2 ..) (ev_bind (ev_eq (hasPre_ [] 125)) (ev_neg (by simp) (ev_pos (by omega) (ev_bind (ev_eq (cutPre [] 44)) (ev_neg (by simp) (ev_now _))))))
    | cons c q =>
     rw [itemsX_go n acc ei]
     rw [List.length_cons] at g1
     by_cases h3 : c = 125
     ·rw [if_pos h3, h3]
      exact lx_close q _ hA2 hG2 (by omega)
     ·rw [if_neg h3]
      refine ev_step (fun _ => impl_takeMatchers.l0.eq_2 ..) (ev_bind (ev_eq (hasPre_ (c :: q) 125)) (ev_neg (by simpa using h3) (ev_pos (by omega) (ev_bind (ev_eq (cutPre (c :: q) 44)) ?_))))
      by_cases h4 : c = 44
      ·rw [if_pos h4, if_pos (by rw [h4]; rfl)]
       exact ev_pos rfl (ih q _ (by omega) (by omega) (by omega) hA2 hG2)
      ·rw [if_neg h4, if_neg (by simpa using h4)]
       exact ev_neg (by simp) (ev_now _)
   ·rw [resIX_bad]
    ·exact ev_neg hb (ev_now _)
    ·intro l q' hl
     obtain ⟨y, ys, hl1, _, q2, hl2⟩ := itemsX_round _ _ _ _ _ hl
     rw [ei] at hl2
     cases hl2
     exact ⟨x, by rw [hl1]; simp, hb⟩
def sq (op : Int) : ByteArray := rdOf ByteArray.empty SIGNS op ++ ⟨#[34]⟩
theorem l1_skip (s : ByteArray) (acc : List S35) (e nx : Int) (op : Int) (n : ByteArray) (o : Int) (v : ByteArray) (R) (h1 : 1 ≤ op) (h4 : op ≤ 4) (hx : 0 ≤ nx) (h : Ev (fun k => spec_l2ReadMatchers.l1 k s acc e nx (op - 1) n o v) R) : Ev (fun k => spec_l2ReadMatchers.l1 k s acc e nx op n o v) R := by
 refine ev_step (fun _ => spec_l2ReadMatchers.l1.eq_2 ..) (ev_pos (by omega) (ev_bind (ev_eq (show spec_l2Ops.f = some SIGNS from rfl)) (ev_pos (by omega) (ev_pos (by show op < ((5 : Nat) : Int); omega) (ev_neg (by omega) ?_)))))
 rw [w64 (by omega) (by omega)]
 exact h
theorem l1_miss (s : ByteArray) (acc : List S35) (e : Nat) (op : Int) (n : ByteArray) (o : Int) (v : ByteArray) (R) (he : e ≤ s.size) (h1 : 1 ≤ op) (h4 : op ≤ 4) (hz : (rdOf ByteArray.empty SIGNS op).size ≤ 2) (hm : ¬ ((Y s).drop e).take (sq op).size = Y (sq op)) (h : Ev (fun k => spec_l2ReadMatchers.l1 k s acc (e : Int) (-1) (op - 1) n o v) R) : Ev (fun k => spec_l2ReadMatchers.l1 k s acc (e : Int) (-1) op n o v) R := by
 refine ev_step (fun _ => spec_l2ReadMatchers.l1.eq_2 ..) (ev_pos (by omega) (ev_bind (ev_eq (show spec_l2Ops.f = some SIGNS from rfl)) (ev_pos (by omega) (ev_pos (by show op < ((5 : Nat) : Int); omega) (ev_pos (by omega) (ev_pos (by omega) (ev_pos (by omega) (ev_pos (by omega) ?_))))))))
 rw [Int.toNat_natCast, ext_drop, w64 (x := op - 1) (by omega) (by omega)]
 exact ev_bind (ev_eq (headG _ (sq op))) (ev_neg (by simpa using hm) h)
theorem l1_hit (s : ByteArray) (hs : s.size ≤ 1048576) (acc : List S35) (e : Nat) (op : Int) (n : ByteArray) (o : Int) (v : ByteArray) (q : List UInt8) (R) (he : e ≤ s.size) (h1 : 1 ≤ op) (h4 : op ≤ 4) (hz : (rdOf ByteArray.empty SIGNS op).size ≤ 2) (hm : (Y s).drop e = Y (sq op) ++ q) (h : Ev (fun k => spec_l2ReadMatchers.l1 k s acc (e : Int) (unS s.size [] (unq q)).2 (op - 1) n op (unS s.size [] (unq q)).1) R) : Ev (fun k => spec_l2ReadMatchers.l1 k s acc (e : Int) (-1) op n o v) R := by
 refine ev_step (fun _ => spec_l2ReadMatchers.l1.eq_2 ..) (ev_pos (by omega) (ev_bind (ev_eq (show spec_l2Ops.f = some SIGNS from rfl)) (ev_pos (by omega) (ev_pos (by show op < ((5 : Nat) : Int); omega) (ev_pos (by omega) (ev_pos (by omega) (ev_pos (by omega) (ev_pos (by omega) ?_))))))))
 rw [Int.toNat_natCast, ext_drop, w64 (x := op - 1) (by omega) (by omega)]
 have ht : ((Y s).drop e).take (sq op).size = Y (sq op) := by rw [hm, ← Y_len, List.take_left]
 refine ev_bind (ev_eq (headG _ (sq op))) (ev_pos (by simpa using ht) ?_)
 have uq := unquote_spec s hs (e + (rdOf ByteArray.empty SIGNS op).size)
 have eq_ : (Y s).drop (e + (rdOf ByteArray.empty SIGNS op).size) = 34 :: q := by
  rw [← List.drop_drop, hm]
  unfold sq
  rw [Y_app, List.append_assoc, ← Y_len, List.drop_left]
  rfl
 rw [eq_, unqF_yes] at uq
 rw [show wrap64 ((e : Int) + ((rdOf ByteArray.empty SIGNS op).size : Int)) = ((e + (rdOf ByteArray.empty SIGNS op).size : Nat) : Int) from by rw [w64 (by omega) (by omega)]; omega]
 exact ev_bind uq h
theorem l1_fail (s : ByteArray) (acc : List S35) (e : Nat) (n : ByteArray) (o : Int) (v : ByteArray) : Ev (fun k => spec_l2ReadMatchers.l1 k s acc (e : Int) (-1) 0 n o v) (([] : List S35), (-1 : Int)) :=
 ev_step (fun _ => spec_l2ReadMatchers.l1.eq_2 ..) (ev_neg (by decide) (ev_pos (by decide) (ev_step (fun _ => spec_l2ReadMatchers.j4.eq_2 ..) (ev_pos rfl (ev_now _)))))
/-- The rounds over the signs: what stands behind the name decides. -/
theorem l1_all (s : ByteArray) (hs : s.size ≤ 1048576) (acc : List S35) (e : Nat) (n : ByteArray) (R) (he : e ≤ s.size) (hno : (sgnQ ((Y s).drop e) = none ∨ ∃ op q, sgnQ ((Y s).drop e) = some (op, q) ∧ unq q = none) → R = (([] : List S35), (-1 : Int))) (hyes : ∀ op q v q2, sgnQ ((Y s).drop e) = some (op, q) → unq q = some (v, q2) → Ev (fun k => spec_l2ReadMatchers.l1 k s acc (e : Int) ((s.size : Int) - (q2.length : Int)) 0 n op (bs v)) R) : Ev (fun k => spec_l2ReadMatchers.l1 k s acc (e : Int) (-1) 4 n 0 (⟨#[]⟩ : ByteArray)) R := by
 have y1 : Y (sq 1) = [61, 34] := rfl
 have y2 : Y (sq 2) = [33, 61, 34] := rfl
 have y3 : Y (sq 3) = [61, 126, 34] := rfl
 have y4 : Y (sq 4) = [33, 126, 34] := rfl
 have f1 : (sq 1).size = 2 := rfl
 have f2 : (sq 2).size = 3 := rfl
 have f3 : (sq 3).size = 3 := rfl
 have f4 : (sq 4).size = 3 := rfl
 have z1 : (rdOf ByteArray.empty SIGNS 1).size ≤ 2 := by decide
 have z2 : (rdOf ByteArray.empty SIGNS 2).size ≤ 2 := by decide
 have z3 : (rdOf ByteArray.empty SIGNS 3).size ≤ 2 := by decide
 have z4 : (rdOf ByteArray.empty SIGNS 4).size ≤ 2 := by decide
 have ql : ∀ q v q2, unq q = some (v, q2) → ∀ op, (Y s).drop e = Y (sq op) ++ q → 0 ≤ (s.size : Int) - (q2.length : Int) := fun q v q2 h op h2 => by
  have h3 := (unq_len h).2
  have h4 := congrArg List.length h2
  rw [List.length_drop, Y_len, List.length_append] at h4
  omega
 have td := fun n => (List.take_append_drop n ((Y s).drop e)).symm
 by_cases h4 : ((Y s).drop e).take 3 = [33, 126, 34]
 ·obtain ⟨q, hq⟩ : ∃ q, (Y s).drop e = 33 :: 126 :: 34 :: q := ⟨_, by have := td 3; rw [h4] at this; exact this⟩
  have es : sgnQ ((Y s).drop e) = some (4, q) := by rw [hq]; simp [sgnQ]
  refine l1_hit s hs acc e 4 n 0 _ q R he (by decide) (by decide) z4 hq ?_
  cases eu : unq q with
  | none =>
   rw [hno (.inr ⟨4, q, es, eu⟩)]
   exact l1_miss s acc e 3 n 4 _ _ he (by decide) (by decide) z3 (by rw [hq, y3, f3]; simp) (l1_miss s acc e 2 n 4 _ _ he (by decide) (by decide) z2 (by rw [hq, y2, f2]; simp) (l1_miss s acc e 1 n 4 _ _ he (by decide) (by decide) z1 (by rw [hq, y1, f1]; simp) (l1_fail ..)))
  | some p =>
   obtain ⟨v, q2⟩ := p
   have hx := ql q v q2 eu 4 hq
   exact l1_skip s acc e _ 3 n 4 _ _ (by decide) (by decide) hx (l1_skip s acc e _ 2 n 4 _ _ (by decide) (by decide) hx (l1_skip s acc e _ 1 n 4 _ _ (by decide) (by decide) hx (hyes 4 q v q2 es eu)))
 by_cases h3 : ((Y s).drop e).take 3 = [61, 126, 34]
 ·obtain ⟨q, hq⟩ : ∃ q, (Y s).drop e = 61 :: 126 :: 34 :: q := ⟨_, by have := td 3; rw [h3] at this; exact this⟩
  have es : sgnQ ((Y s).drop e) = some (3, q) := by rw [hq]; simp [sgnQ]
  refine l1_miss s acc e 4 n 0 _ _ he (by decide) (by decide) z4 (by rw [hq, y4, f4]; simp) (l1_hit s hs acc e 3 n 0 _ q R he (by decide) (by decide) z3 hq ?_)
  cases eu : unq q with
  | none =>
   rw [hno (.inr ⟨3, q, es, eu⟩)]
   exact l1_miss s acc e 2 n 3 _ _ he (by decide) (by decide) z2 (by rw [hq, y2, f2]; simp) (l1_miss s acc e 1 n 3 _ _ he (by decide) (by decide) z1 (by rw [hq, y1, f1]; simp) (l1_fail ..))
  | some p =>
   obtain ⟨v, q2⟩ := p
   have hx := ql q v q2 eu 3 hq
   exact l1_skip s acc e _ 2 n 3 _ _ (by decide) (by decide) hx (l1_skip s acc e _ 1 n 3 _ _ (by decide) (by decide) hx (hyes 3 q v q2 es eu))
 by_cases h2 : ((Y s).drop e).take 3 = [33, 61, 34]
 ·obtain ⟨q, hq⟩ : ∃ q, (Y s).drop e = 33 :: 61 :: 34 :: q := ⟨_, by have := td 3; rw [h2] at this; exact this⟩
  have es : sgnQ ((Y s).drop e) = some (2, q) := by rw [hq]; simp [sgnQ]
  refine l1_miss s acc e 4 n 0 _ _ he (by decide) (by decide) z4 (by rw [hq, y4, f4]; simp) (l1_miss s acc e 3 n 0 _ _ he (by decide) (by decide) z3 (by rw [hq, y3, f3]; simp) (l1_hit s hs acc e 2 n 0 _ q R he (by decide) (by decide) z2 hq ?_))
  cases eu : unq q with
  | none =>
   rw [hno (.inr ⟨2, q, es, eu⟩)]
   exact l1_miss s acc e 1 n 2 _ _ he (by decide) (by decide) z1 (by rw [hq, y1, f1]; simp) (l1_fail ..)
  | some p =>
   obtain ⟨v, q2⟩ := p
   have hx := ql q v q2 eu 2 hq
   exact l1_skip s acc e _ 1 n 2 _ _ (by decide) (by decide) hx (hyes 2 q v q2 es eu)
 by_cases h1 : ((Y s).drop e).take 2 = [61, 34]
 ·obtain ⟨q, hq⟩ : ∃ q, (Y s).drop e = 61 :: 34 :: q := ⟨_, by have := td 2; rw [h1] at this; exact this⟩
  have es : sgnQ ((Y s).drop e) = some (1, q) := by rw [hq]; simp [sgnQ]
  refine l1_miss s acc e 4 n 0 _ _ he (by decide) (by decide) z4 h4 (l1_miss s acc e 3 n 0 _ _ he (by decide) (by decide) z3 h3 (l1_miss s acc e 2 n 0 _ _ he (by decide) (by decide) z2 h2 (l1_hit s hs acc e 1 n 0 _ q R he (by decide) (by decide) z1 hq ?_)))
  cases eu : unq q with
  | none =>
   rw [hno (.inr ⟨1, q, es, eu⟩)]
   exact l1_fail ..
  | some p =>
   obtain ⟨v, q2⟩ := p
   exact hyes 1 q v q2 es eu
 ·rw [hno (.inl (by unfold sgnQ; rw [if_neg h4, if_neg h3, if_neg h2, if_neg h1]))]
  exact l1_miss s acc e 4 n 0 _ _ he (by decide) (by decide) z4 h4 (l1_miss s acc e 3 n 0 _ _ he (by decide) (by decide) z3 h3 (l1_miss s acc e 2 n 0 _ _ he (by decide) (by decide) z2 h2 (l1_miss s acc e 1 n 0 _ _ he (by decide) (by decide) z1 h1 (l1_fail ..))))
def resSX (s : ByteArray) : Option (List S35 × List UInt8) → List S35 × Int
 | some (l, q) => if matchesB l = true then (l, (s.size : Int) - (q.length : Int)) else ([], -1)
 | none => ([], -1)
theorem tx_spec (s : ByteArray) (hs : s.size ≤ 1048576) : ∀ (n a : Nat) (acc : List S35), a ≤ s.size → s.size - a < n → acc.length + (s.size - a) ≤ 2097152 → okX acc → Ev (fun k => spec_l2ReadMatchers.l0 k s (a : Int) acc) (resSX s (itemsX n ((Y s).drop a) acc)) := by
 intro n
 induction n with
 | zero => intro a acc h h'; omega
 | succ n ih =>
  intro a acc hat hn ha hA
  obtain ⟨r, er⟩ : ∃ r, r = (Y s).drop a := ⟨_, rfl⟩
  have rl : r.length = s.size - a := by rw [er, List.length_drop, Y_len]
  have hwl := wl_le r
  rw [← er]
  refine ev_step (fun _ => spec_l2ReadMatchers.l0.eq_2 ..) (ev_ite (fun h10 => ?_) (fun h10 => ?_))
  ·have na := nameAt_spec s hs a hat
   rw [← er] at na
   refine ev_bind na (ev_pos (by omega) (ev_pos (by omega) (ev_pos (by omega) ?_)))
   have ed : (Y s).drop (a + wl r) = r.drop (wl r) := by rw [← List.drop_drop, ← er]
   rw [show s.extract (a : Int).toNat ((a + wl r : Nat) : Int).toNat = bs (r.take (wl r)) from Y_inj (by rw [Y_ext, Y_bs, Int.toNat_natCast, Int.toNat_natCast, er, Nat.add_sub_cancel_left])]
   refine l1_all s hs acc (a + wl r) _ _ (by omega) ?_ ?_
   ·rw [ed]
    rintro (h | ⟨op, q, h, h'⟩)
    ·rw [itemsX_none n acc (itmX_none h)]; rfl
    ·rw [itemsX_none n acc (by rw [itmX_some h, h']; rfl)]; rfl
   ·rw [ed]
    intro op q v q2 h h'
    have it : itmX r = some (⟨bs (r.take (wl r)), op, bs v⟩, q2) := by rw [itmX_some h, h']; rfl
    obtain ⟨g1, g2, g3⟩ := itmX_len it
    have hA2 := okX_app hA (x := ⟨bs (r.take (wl r)), op, bs v⟩) (by omega) (by omega)
    obtain ⟨nx, en⟩ : ∃ nx : Nat, nx = s.size - q2.length := ⟨_, rfl⟩
    have eq2 : q2 = (Y s).drop nx := by
     have h1 : q2 <:+ Y s := by
      have h2 : q2 <:+ r := ⟨_, (itmX_round it).1.symm⟩
      rw [er] at h2
      exact h2.trans (List.drop_suffix _ _)
     have h3 := List.suffix_iff_eq_drop.1 h1
     rw [Y_len, ← en] at h3
     exact h3
    rw [show (s.size : Int) - (q2.length : Int) = ((nx : Nat) : Int) from by omega]
    refine ev_step (fun _ => spec_l2ReadMatchers.l1.eq_2 ..) (ev_neg (by decide) (ev_neg (by omega) (ev_ite (fun h5 => ?_) (fun h5 => ev_pos (by omega) (ev_pos (by omega) ?_)))))
    ·have : q2 = [] := by rw [eq2]; exact List.drop_eq_nil_of_le (by rw [Y_len]; omega)
     rw [this] at it
     rw [itemsX_end n acc it]
     exact ev_step (fun _ => spec_l2ReadMatchers.j4.eq_2 ..) (ev_pos rfl (ev_now _))
    ·have h6 : nx < s.size := by omega
     have e2 : q2 = (Y s)[nx]'(by rw [Y_len]; exact h6) :: (Y s).drop (nx + 1) := eq2.trans (Y_drop h6)
     rw [e2] at it
     rw [itemsX_go n acc it]
     have hlen : (acc ++ [(⟨bs (r.take (wl r)), op, bs v⟩ : S35)]).length = acc.length + 1 := by simp
     refine ev_ite (fun h7 => ?_) (fun h7 => ?_)
     ·have h7' := h7
      rw [bt_at h6, show ((44 : Int) = ((44 : UInt8).toNat : Int)) from rfl, u8i] at h7'
      refine ev_step (fun _ => spec_l2ReadMatchers.j4.eq_2 ..) (ev_neg (by simp) (ev_pos (by omega) (ev_some (ev_pos (by omega) (ev_pos (by omega) (ev_neg (by omega) ?_))))))
      rw [h7', if_neg (by decide), if_pos rfl, w64n h6 (by omega)]
      exact ih (nx + 1) _ (by omega) (by omega) (by omega) hA2
     ·have h7' := h7
      rw [bt_at h6, show ((44 : Int) = ((44 : UInt8).toNat : Int)) from rfl, u8i] at h7'
      refine ev_step (fun _ => spec_l2ReadMatchers.j4.eq_2 ..) (ev_ite (fun h8 => ?_) (fun h8 => ev_pos (by omega) ?_))
      ·rw [bne_iff_ne, ne_eq, bt_at h6, show ((125 : Int) = ((125 : UInt8).toNat : Int)) from rfl, u8i] at h8
       rw [if_neg h8, if_neg h7']
       exact ev_now _
      ·rw [bne_iff_ne, ne_eq, Decidable.not_not] at h8
       have h8' := h8
       rw [bt_at h6, show ((125 : Int) = ((125 : UInt8).toNat : Int)) from rfl, u8i] at h8'
       refine ev_some (ev_pos (by omega) (ev_pos (by omega) (ev_pos h8 (ev_bind (goodMatchers_spec _ (by omega) (okX_fit hA2)) ?_))))
       rw [if_pos h8']
       simp only [resSX]
       have e9 : (s.size : Int) - (((Y s).drop (nx + 1)).length : Int) = ((nx + 1 : Nat) : Int) := by rw [List.length_drop, Y_len]; omega
       rw [e9, w64n h6 (by omega)]
       refine ev_ite (fun h9 => ?_) (fun h9 => ?_)
       ·rw [if_pos h9]; exact ev_now _
       ·rw [if_neg h9]; exact ev_now _
  ·have : resSX s (itemsX (n + 1) r acc) = ([], -1) := by
    cases e : itemsX (n + 1) r acc with
    | none => rfl
    | some p =>
     obtain ⟨l, q⟩ := p
     obtain ⟨x, xs, h1, _⟩ := itemsX_round _ _ _ _ _ e
     show (if matchesB l = true then _ else _) = _
     rw [if_neg]
     intro hg
     have := (matches_all hg).1
     rw [h1, List.length_append, List.length_cons] at this
     omega
   rw [this]
   exact ev_now _
/-- A whole text. -/
def readX : List UInt8 → Option (List S35 × List UInt8)
 | [] => none
 | c :: r => if c = 123 then (if r.head? = some 125 then some ([], r.tail) else itemsX (r.length + 1) r []) else none
theorem matchesB_nil : matchesB [] = true := rfl
theorem okX_nil : okX [] := fun _ h => by cases h
theorem takeX_impl (s : ByteArray) (hs : s.size ≤ 1048576) : Ev (fun k => impl_takeMatchers.f k s) (resIX (readX (Y s))) := by
 unfold impl_takeMatchers.f
 have h1 := cutPre (Y s) 123
 rw [bs_Y] at h1
 refine ev_bind (ev_eq h1) ?_
 have hl : (Y s).length = s.size := Y_len s
 cases e : Y s with
 | nil => exact ev_neg (by simp) (ev_now _)
 | cons c r =>
  rw [e, List.length_cons] at hl
  simp only [readX]
  by_cases hc : c = 123
  ·rw [if_pos (by rw [hc]; rfl), if_pos hc]
   refine ev_pos rfl ?_
   show Ev (fun k => impl_takeMatchers.l0 k (bs r) []) _
   by_cases h2 : r.head? = some 125
   ·obtain ⟨q, rfl⟩ : ∃ q, r = 125 :: q := by
     cases r with
     | nil => cases h2
     | cons d q => cases h2; exact ⟨q, rfl⟩
    rw [if_pos h2]
    exact lx_close q [] okX_nil rfl (by simp)
   ·rw [if_neg h2]
    refine ev_step (fun _ => impl_takeMatchers.l0.eq_2 ..) (ev_bind (ev_eq (hasPre_ r 125)) (ev_neg (by simpa using h2) (ev_neg (by simp) ?_)))
    exact tx_impl (r.length + 1) r [] (by omega) (by omega) (by simp; omega) okX_nil rfl
  ·rw [if_neg (by simpa using hc), if_neg hc]
   exact ev_neg (by simp) (ev_now _)
theorem readX_spec (s : ByteArray) (hs : s.size ≤ 1048576) : Ev (fun k => spec_l2ReadMatchers.f k s 0) (resSX s (readX (Y s))) := by
 unfold spec_l2ReadMatchers.f
 refine ev_ite (fun h => ?_) (fun h => ev_pos (by omega) (ev_pos (by omega) ?_))
 ·rw [Y_nil (by omega)]
  exact ev_step (fun _ => spec_l2ReadMatchers.j0.eq_2 ..) (ev_pos rfl (ev_now _))
 ·have h0 : 0 < s.size := by omega
  have ey := Y_cons h0
  have hw : wrap64 ((0 : Int) + 1) = ((1 : Nat) : Int) := by rw [w64 (by omega) (by omega)]; rfl
  rw [ey]
  simp only [readX]
  rw [show bt s 0 = bt s ((0 : Nat) : Int) from rfl, bt_at h0]
  refine ev_step (fun _ => spec_l2ReadMatchers.j0.eq_2 ..) (ev_ite (fun hc => ?_) (fun hc => ?_))
  ·rw [bne_iff_ne, ne_eq, show ((123 : Int) = ((123 : UInt8).toNat : Int)) from rfl, u8i] at hc
   rw [if_neg hc]
   exact ev_now _
  ·rw [bne_iff_ne, ne_eq, show ((123 : Int) = ((123 : UInt8).toNat : Int)) from rfl, u8i, Decidable.not_not] at hc
   rw [if_pos hc, hw]
   have hr : ((Y s).drop 1).length = s.size - 1 := by rw [List.length_drop, Y_len]
   have key := tx_spec s hs (((Y s).drop 1).length + 1) 1 [] (by omega) (by omega) (by simp; omega) okX_nil
   refine ev_ite (fun h1 => ev_pos (by omega) ?_) (fun h1 => ?_)
   ·have h2 : 1 < s.size := by omega
    have e1 := Y_drop h2
    rw [bt_at h2]
    refine ev_step (fun _ => spec_l2ReadMatchers.j1.eq_2 ..) (ev_ite (fun hd => ?_) (fun hd => ?_))
    ·rw [beq_iff_eq, show ((125 : Int) = ((125 : UInt8).toNat : Int)) from rfl, u8i] at hd
     rw [e1, hd, List.head?_cons, if_pos rfl]
     simp only [resSX]
     rw [if_pos matchesB_nil, List.tail_cons, List.length_drop, Y_len]
     have : wrap64 (((1 : Nat) : Int) + 1) = (s.size : Int) - ((s.size - (1 + 1) : Nat) : Int) := by rw [w64 (by omega) (by omega)]; omega
     rw [this]
     exact ev_now _
    ·rw [beq_iff_eq, show ((125 : Int) = ((125 : UInt8).toNat : Int)) from rfl, u8i] at hd
     rw [if_neg (by rw [e1]; simpa using hd)]
     exact key
   ·have e1 : (Y s).drop 1 = [] := List.drop_eq_nil_of_le (by rw [Y_len]; omega)
    rw [if_neg (by rw [e1]; simp)]
    exact ev_step (fun _ => spec_l2ReadMatchers.j1.eq_2 ..) (ev_neg (by simp) key)
theorem readX_round {t : List UInt8} {l : List S35} {q : List UInt8} (h : readX t = some (l, q)) : t = textM l ++ q := by
 cases t with
 | nil => cases h
 | cons c r =>
  simp only [readX] at h
  by_cases hc : c = 123
  ·rw [if_pos hc] at h
   by_cases h2 : r.head? = some 125
   ·rw [if_pos h2] at h
    cases h
    cases r with
    | nil => cases h2
    | cons d q => cases h2; rw [hc]; rfl
   ·rw [if_neg h2] at h
    obtain ⟨x, xs, h3, h4, _⟩ := itemsX_round _ _ _ _ _ h
    rw [List.nil_append] at h3
    rw [h3, hc, h4]
    rfl
  ·rw [if_neg hc] at h; cases h
/-- What ReadMatchers tells. -/
def readM (s : ByteArray) : List S35 × Bool := match readX (Y s) with
 | some (l, []) => if matchesB l = true then (l, true) else ([], false)
 | _ => ([], false)
theorem readMatchers_spec (s : ByteArray) (hs : s.size ≤ 1048576) : Ev (fun k => spec_ReadMatchers.f k s) (readM s) := by
 unfold spec_ReadMatchers.f readM
 have rs := readX_spec s hs
 cases e : readX (Y s) with
 | none =>
  rw [e] at rs
  exact ev_bind rs (ev_neg (by simp only [resSX]; omega) (ev_now _))
 | some p =>
  obtain ⟨l, q⟩ := p
  have hl := congrArg List.length (readX_round e)
  rw [List.length_append, Y_len] at hl
  rw [e] at rs
  simp only [resSX] at rs
  by_cases hg : matchesB l = true
  ·rw [if_pos hg] at rs
   refine ev_bind rs ?_
   cases q with
   | nil =>
    show Ev _ (if matchesB l = true then _ else _)
    rw [if_pos hg]
    exact ev_pos (by simp) (ev_now _)
   | cons c q => exact ev_neg (by simp only [List.length_cons]; omega) (ev_now _)
  ·rw [if_neg hg] at rs
   refine ev_bind rs ?_
   cases q with
   | nil =>
    show Ev _ (if matchesB l = true then _ else _)
    rw [if_neg hg]
    exact ev_neg (by show ¬ (-1 : Int) = _; omega) (ev_now _)
   | cons c q => exact ev_neg (by show ¬ (-1 : Int) = _; omega) (ev_now _)
theorem readMatchers_impl (s : ByteArray) (hs : s.size ≤ 1048576) : Ev (fun k => impl_ReadMatchers.f k s) (readM s) := by
 unfold impl_ReadMatchers.f readM
 have ti := takeX_impl s hs
 cases e : readX (Y s) with
 | none =>
  rw [e] at ti
  exact ev_bind ti (ev_neg (by simp [resIX]) (ev_now _))
 | some p =>
  obtain ⟨l, q⟩ := p
  have rr := readX_round e
  rw [e] at ti
  by_cases hg : matchesB l = true
  ·have ha : l.all matchB = true := by
    have h2 := hg
    unfold matchesB at h2
    exact (Bool.and_eq_true_iff.1 h2).2
   have ti2 : Ev (fun k => impl_takeMatchers.f k s) (l, bs q, matchesB l) := by
    have : resIX (some (l, q)) = (l, bs q, matchesB l) := if_pos ha
    rw [← this]
    exact ti
   refine ev_bind ti2 (ev_pos hg ?_)
   cases q with
   | nil =>
    show Ev _ (if matchesB l = true then _ else _)
    rw [if_pos hg]
    obtain ⟨g1, g2⟩ := matches_all hg
    have tx := textM_impl l (by omega) (fun x hx => by have := g2 x hx; unfold goodMx at this; omega)
    unfold textOfM at tx
    rw [if_pos hg] at tx
    refine ev_pos (by show (bs []).toList = []; rw [Y_eq, Y_bs]) (ev_bind tx (ev_pos ?_ (ev_now _)))
    rw [Y_eq, Y_eq, Y_bs, rr, List.append_nil]
   | cons c q => exact ev_neg (by show ¬ (bs (c :: q)).toList = []; rw [Y_eq, Y_bs]; simp) (ev_now _)
  ·have no : (match q with | [] => (if matchesB l = true then (l, true) else ([], false)) | _ => (([] : List S35), false)) = ([], false) := by
    cases q with
    | nil => exact if_neg hg
    | cons c q => rfl
   have no2 : (match some (l, q) with | some (l, []) => (if matchesB l = true then (l, true) else ([], false)) | _ => (([] : List S35), false)) = ([], false) := by
    cases q with
    | nil => exact if_neg hg
    | cons c q => rfl
   rw [no2]
   refine ev_bind ti (ev_neg ?_ (ev_now _))
   show ¬ (if l.all matchB = true then (l, bs q, matchesB l) else ([], bs [], false)).2.2 = true
   split
   ·exact hg
   ·decide
theorem readM_len (s : ByteArray) : (readM s).1.length ≤ 10 := by
 unfold readM
 split
 ·split
  ·rename_i h; exact (matches_all h).1
  ·simp
 ·simp
end Go.Proofs.YtlibcibpflfboaaDoor.U

