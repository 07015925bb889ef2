/- Plain lemmas over the printed functions, for the law FnExactPullTimes; each theorem states its own conditions. -/
import Derived.Test.YtbejcmfpmoaddaaPrx0
import Derived.Test.YtbejcmfpmoaddaaPrxg40683n1
import Derived.Test.YtbejcmfpmoaddaaPrxg87244n1
import Derived.Test.YtbejcmfpmoaddaaPrxg87244n2
import Derived.Test.YtbejcmfpmoaddaaPrxg87244n3
import Derived.Test.YtbejcmfpmoaddaaPrxg87244n4
import Derived.Test.YtbejcmfpmoaddaaPrxg87244n5
namespace Go.Proofs.Ytbejcmfpmoaddaa.U
open Go.RowKit Go.Proofs.Ytbejcmfpmoaddaa.Pr Go.Proofs.YtbejcmfpmoaddaaW.PrintWords Go.Proofs.YtbejcmfpmoaddaaW.PrintLast Go.Proofs.YtbejcmfpmoaddaaW.PrintMore
set_option linter.unusedVariables false
set_option linter.unusedSimpArgs false
/-! Words for plain proofs over the printed functions: from some number of rounds on; loops that go up; ranges. -/
theorem w64 {x : Int} (h0 : -9223372036854775808 ≤ x) (h1 : x ≤ 9223372036854775807) : wrap64 x = x := by unfold wrap64; omega
theorem w64n {i n : Nat} (h : i < n) (hn : n ≤ 9223372036854775807) : wrap64 ((i : Int) + 1) = ((i + 1 : Nat) : Int) := by unfold wrap64; omega
theorem wu64 (n : Int) : IntKind.u64.wrap n = n % 18446744073709551616 := by simp [IntKind.wrap, IntKind.bits, IntKind.signed]
theorem bu64 (op : BinOp) (x y : Int) : 0 ≤ bits op .u64 x y ∧ bits op .u64 x y < 18446744073709551616 := by
 unfold bits
 simp only [wu64]
 omega
theorem ev_now {α : Type} (r : α) : Ev (fun _ => some r) r := Ev.now r
theorem ev_eq {α : Type} {g : Option α} {r : α} (h : g = some r) : Ev (fun _ => g) r := ⟨0, fun _ _ => h⟩
theorem ev_pos {α : Type} {c : Prop} [Decidable c] {a b : Nat → Option α} {r : α} (h : c) (e : Ev a r) : Ev (fun k => if c then a k else b k) r := by
 obtain ⟨K, e⟩ := e
 exact ⟨K, fun k hk => (if_pos h).trans (e k hk)⟩
theorem ev_neg {α : Type} {c : Prop} [Decidable c] {a b : Nat → Option α} {r : α} (h : ¬ c) (e : Ev b r) : Ev (fun k => if c then a k else b k) r := by
 obtain ⟨K, e⟩ := e
 exact ⟨K, fun k hk => (if_neg h).trans (e k hk)⟩
theorem ev_ite {α : Type} {c : Prop} [Decidable c] {a b : Nat → Option α} {r : α} (h : c → Ev a r) (h' : ¬ c → Ev b r) : Ev (fun k => if c then a k else b k) r := by
 by_cases hc : c
 ·exact ev_pos hc (h hc)
 ·exact ev_neg hc (h' hc)
theorem ev_bind {α β : Type} {g : Nat → Option α} {f : Nat → α → Option β} {a : α} {r : β} (h : Ev g a) (k : Ev (fun n => f n a) r) : Ev (fun n => (g n).bind (f n)) r := Ev.bind h k
theorem ev_some {α β : Type} {f : Nat → α → Option β} {a : α} {r : β} (k : Ev (fun n => f n a) r) : Ev (fun n => (some a).bind (f n)) r := Ev.bind (Ev.now a) k
theorem ev_step {α : Type} {g f : Nat → Option α} {r : α} (h : ∀ k, g (k + 1) = f k) (k : Ev f r) : Ev g r := Ev.step h k
theorem ev_one {α : Type} {g : Nat → Option α} {r q : α} (h : Ev g r) (h' : Ev g q) : r = q := by
 obtain ⟨K, h⟩ := h
 obtain ⟨K', h'⟩ := h'
 exact Option.some.inj ((h (max K K') (Nat.le_max_left _ _)).symm.trans (h' _ (Nat.le_max_right _ _)))
/-- What holds at the end and goes down a round, holds at each round. -/
theorem up_ind (n : Nat) (Q : Nat → Prop) (done : Q n) (step : ∀ i, i < n → Q (i + 1) → Q i) : ∀ i, i ≤ n → Q i := by
 have key : ∀ d i, i + d = n → Q i := by
  intro d
  induction d with
  | zero =>
   intro i h
   have e : i = n := by omega
   rw [e]
   exact done
  | succ d ih => intro i h; exact step i (by omega) (ih (i + 1) (by omega))
 exact fun i h => key (n - i) i (by omega)
theorem getD_lt {α : Type} {l : List α} {d : α} {i : Nat} (h : i < l.length) : l.getD ((i : Int).toNat) d = l[i] := by
 rw [Int.toNat_natCast, List.getD_eq_getElem?_getD, List.getElem?_eq_getElem h]
 rfl
theorem rd_at {l : List Int} {i : Nat} (h : i < l.length) : rd l (i : Int) = l[i] := getD_lt h
theorem rdOf_at {α : Type} {d : α} {l : List α} {i : Nat} (h : i < l.length) : rdOf d l (i : Int) = l[i] := getD_lt h
/-- A loop that writes a row anew, element by element. -/
theorem ev_copy {α β : Type} (F : Nat → List β → Int → Option (List β)) (cv : α → β) (l : List α) (x : List β) (hx : x.length = l.length)
  (step : ∀ (i : Nat) (h : i < l.length) (y r : List β), y.length = l.length → Ev (fun k => F k (y.set i (cv l[i])) ((i + 1 : Nat) : Int)) r → Ev (fun k => F k y (i : Int)) r)
  (done : ∀ y : List β, y.length = l.length → Ev (fun k => F k y (l.length : Int)) y) : Ev (fun k => F k x 0) (l.map cv) := by
 refine up_ind l.length (fun i => ∀ y : List β, y.length = l.length → (∀ j, j < i → y[j]? = (l.map cv)[j]?) → Ev (fun k => F k y (i : Int)) (l.map cv)) ?_ ?_ 0 (by omega) x hx (fun j hj => by omega)
 ·intro y hy h
  have e : y = l.map cv := by
   apply List.ext_getElem?
   intro j
   by_cases hj : j < l.length
   ·exact h j hj
   ·rw [List.getElem?_eq_none (by omega), List.getElem?_eq_none (by simp; omega)]
  have d := done y hy
  rw [e] at d ⊢
  exact d
 ·intro i hi ih y hy h
  refine step i hi y _ hy (ih _ (by simp [hy]) (fun j hj => ?_))
  by_cases e : j = i
  ·subst e
   rw [List.getElem?_set_self (by omega), List.getElem?_map, List.getElem?_eq_getElem hi]
   rfl
  ·rw [List.getElem?_set_ne (Ne.symm e)]
   exact h j (by omega)
end Go.Proofs.Ytbejcmfpmoaddaa.U
namespace Go.Proofs.Ytbejcmfpmoaddaa.U
open Go.RowKit Go.Proofs.Ytbejcmfpmoaddaa.Pr Go.Proofs.YtbejcmfpmoaddaaW.PrintWords Go.Proofs.YtbejcmfpmoaddaaW.PrintLast Go.Proofs.YtbejcmfpmoaddaaW.PrintMore
set_option linter.unusedVariables false
set_option linter.unusedSimpArgs false
theorem markText_l (m : Nat) : ∀ (c : Int) (s : ByteArray), 0 ≤ c → c < 10 ^ m → c ≤ 9223372036854775807 → s.size + m < 1000 → ∃ r, Ev (fun k => laws_markText.l0 k c s) r := by
 induction m with
 | zero =>
  intro c s h0 h1 _ h2
  simp at h1
  have hs : 1 + s.size ≤ 9223372036854775807 := by omega
  exact ⟨_, ev_step (fun _ => laws_markText.l0.eq_2 ..) (ev_neg (by omega) (ev_pos hs (ev_now _)))⟩
 | succ m ih =>
  intro c s h0 h1 h1' h2
  by_cases hc : c > 0
  ·rw [Int.pow_succ] at h1
   have e : wrap64 (Int.tdiv c 10) = c / 10 := by rw [Int.tdiv_eq_ediv_of_nonneg h0, w64 (by omega) (by omega)]
   have hz : ∀ x : Int, (strOfNums [x]).size = 1 := fun x => strOfNums_size [x]
   obtain ⟨r, hr⟩ := ih (c / 10) (strOfNums [wrap64 (48 + Int.tmod c 10) % 256] ++ s) (by omega) (by generalize (10 : Int) ^ m = p at h1 ⊢; omega) (by omega) (by rw [ByteArray.size_append, hz]; omega)
   refine ⟨r, ev_step (fun _ => laws_markText.l0.eq_2 ..) (ev_pos hc (ev_some (ev_pos (by rw [hz]; omega) ?_)))⟩
   rw [e]
   exact hr
  ·have hs : 1 + s.size ≤ 9223372036854775807 := by omega
   exact ⟨_, ev_step (fun _ => laws_markText.l0.eq_2 ..) (ev_neg hc (ev_pos hs (ev_now _)))⟩
theorem markText (c : Int) (h0 : 0 < c) (h1 : c ≤ 9223372036854775807) : ∃ r, Ev (fun k => laws_markText.f k c) r := by
 obtain ⟨r, hr⟩ := markText_l 19 c ⟨#[]⟩ (by omega) (Int.lt_of_le_of_lt h1 (by decide)) h1 (by decide)
 refine ⟨r, ?_⟩
 unfold laws_markText.f
 exact ev_neg (by omega) hr
end Go.Proofs.Ytbejcmfpmoaddaa.U
namespace Go.Proofs.Ytbejcmfpmoaddaa.U
open Go.RowKit Go.Proofs.Ytbejcmfpmoaddaa.Pr Go.Proofs.YtbejcmfpmoaddaaW.PrintWords Go.Proofs.YtbejcmfpmoaddaaW.PrintLast Go.Proofs.YtbejcmfpmoaddaaW.PrintMore
set_option linter.unusedVariables false
set_option linter.unusedSimpArgs false
/-- A string's bytes. -/
abbrev Y (s : ByteArray) : List UInt8 := s.data.toList
theorem Y_eq {s : ByteArray} : s.toList = Y s := ByteArray.toList_eq s
theorem Y_len (s : ByteArray) : (Y s).length = s.size := Array.length_toList
theorem Y_inj {s t : ByteArray} (h : Y s = Y t) : s = t := by
 cases s
 cases t
 congr
 exact Array.toList_inj.1 h
theorem bt_at {s : ByteArray} {i : Nat} (h : i < s.size) : bt s (i : Int) = (((Y s)[i]'(by rw [Y_len]; exact h)).toNat : Int) := by
 unfold bt
 rw [dif_pos (show ((i : Int)).toNat < s.size from by omega)]
 rfl
theorem Y_drop {s : ByteArray} {i : Nat} (h : i < s.size) : (Y s).drop i = (Y s)[i]'(by rw [Y_len]; exact h) :: (Y s).drop (i + 1) := List.drop_eq_getElem_cons _
theorem Y_drop_end (s : ByteArray) : (Y s).drop s.size = [] := by rw [← Y_len, List.drop_length]
def digC (c : UInt8) : Bool := decide (48 ≤ (c.toNat : Int)) && decide ((c.toNat : Int) ≤ 57)
def letC (c : UInt8) : Bool := decide (97 ≤ (c.toNat : Int)) && decide ((c.toNat : Int) ≤ 122) || decide (65 ≤ (c.toNat : Int)) && decide ((c.toNat : Int) ≤ 90)
def wordC (c : UInt8) : Bool := letC c || digC c || decide ((c.toNat : Int) = 95)
def prC (c : UInt8) : Bool := decide (32 ≤ (c.toNat : Int)) && decide ((c.toNat : Int) ≤ 126)
/-- A name: at most 40 letters, digits and _, no digit first. -/
def nameL (l : List UInt8) : Bool := decide (1 ≤ l.length) && decide (l.length ≤ 40) && !(l.head?.any digC) && l.all wordC
def prL (n : Nat) (l : List UInt8) : Bool := decide (l.length ≤ n) && l.all prC
def valL (l : List UInt8) : Bool := decide (1 ≤ l.length) && prL 100 l
/-- How two rows of bytes stand to each other. -/
def cmpL : List UInt8 → List UInt8 → Int
 | [], [] => 0
 | [], _ :: _ => -1
 | _ :: _, [] => 1
 | a :: l, b :: m => if (a.toNat : Int) = (b.toNat : Int) then cmpL l m else if (a.toNat : Int) < (b.toNat : Int) then -1 else 1
end Go.Proofs.Ytbejcmfpmoaddaa.U
namespace Go.Proofs.Ytbejcmfpmoaddaa.U
open Go.RowKit Go.Proofs.Ytbejcmfpmoaddaa.Pr Go.Proofs.YtbejcmfpmoaddaaW.PrintWords Go.Proofs.YtbejcmfpmoaddaaW.PrintLast Go.Proofs.YtbejcmfpmoaddaaW.PrintMore
set_option linter.unusedVariables false
set_option linter.unusedSimpArgs false
theorem printed_spec (s : ByteArray) (hs : s.size ≤ 9223372036854775807) : Ev (fun k => spec_l2Printed.f k s) ((Y s).all prC) := by
 refine up_ind s.size (fun i => Ev (fun k => spec_l2Printed.l0 k s (i : Int)) (((Y s).drop i).all prC)) ?_ ?_ 0 (by omega)
 ·rw [Y_drop_end]
  exact ev_step (fun _ => spec_l2Printed.l0.eq_2 ..) (ev_neg (by omega) (ev_now _))
 ·intro i h ih
  refine ev_step (fun _ => spec_l2Printed.l0.eq_2 ..) (ev_pos (by omega) (ev_pos (by omega) ?_))
  rw [bt_at h, Y_drop h, List.all_cons, w64n h hs]
  unfold prC
  refine ev_ite (fun h1 => ?_) (fun h1 => ev_ite (fun h2 => ?_) (fun h2 => ?_))
  ·rw [decide_eq_false (by omega)]
   exact ev_now _
  ·rw [decide_eq_false (show ¬ _ ≤ (126 : Int) from by omega), Bool.and_false, Bool.false_and]
   exact ev_now _
  ·rw [decide_eq_true (by omega), decide_eq_true (by omega)]
   exact ih
theorem printed_impl (s : ByteArray) (hs : s.size ≤ 9223372036854775807) (n : Nat) : Ev (fun k => impl_printed.f k s (n : Int)) (prL n (Y s)) := by
 unfold impl_printed.f prL
 rw [Y_len]
 refine ev_ite (fun h => ?_) (fun h => ?_)
 ·rw [decide_eq_false (by omega)]
  exact ev_now _
 ·rw [decide_eq_true (by omega), Bool.true_and]
  refine up_ind s.size (fun i => Ev (fun k => impl_printed.l0 k s (s.size : Int) (i : Int)) (((Y s).drop i).all prC)) ?_ ?_ 0 (by omega)
  ·rw [Y_drop_end]
   exact ev_step (fun _ => impl_printed.l0.eq_2 ..) (ev_neg (by omega) (ev_now _))
  ·intro i h ih
   refine ev_step (fun _ => impl_printed.l0.eq_2 ..) (ev_pos (by omega) (ev_pos (by omega) (ev_pos (by omega) ?_)))
   rw [bt_at h, Y_drop h, List.all_cons, w64n h hs]
   unfold prC
   refine ev_ite (fun h1 => ?_) (fun h1 => ev_ite (fun h2 => ?_) (fun h2 => ?_))
   ·rw [decide_eq_false (by omega)]
    exact ev_now _
   ·rw [decide_eq_false (show ¬ _ ≤ (126 : Int) from by omega), Bool.and_false, Bool.false_and]
    exact ev_now _
   ·rw [decide_eq_true (by omega), decide_eq_true (by omega)]
    exact ih
end Go.Proofs.Ytbejcmfpmoaddaa.U
namespace Go.Proofs.Ytbejcmfpmoaddaa.U
open Go.RowKit Go.Proofs.Ytbejcmfpmoaddaa.Pr Go.Proofs.YtbejcmfpmoaddaaW.PrintWords Go.Proofs.YtbejcmfpmoaddaaW.PrintLast Go.Proofs.YtbejcmfpmoaddaaW.PrintMore
set_option linter.unusedVariables false
set_option linter.unusedSimpArgs false
theorem digit_impl (c : UInt8) : impl_digitByte.f (c.toNat : Int) = some (digC c) := by
 unfold impl_digitByte.f digC
 by_cases h : (c.toNat : Int) ≥ 48
 ·rw [if_pos h, decide_eq_true (show 48 ≤ (c.toNat : Int) from h), Bool.true_and]
 ·rw [if_neg h, decide_eq_false (show ¬ 48 ≤ (c.toNat : Int) from h), Bool.false_and]
theorem digit_spec (c : UInt8) : spec_l2Digit.f (c.toNat : Int) = some (digC c) := by
 unfold spec_l2Digit.f digC
 by_cases h : (c.toNat : Int) ≥ 48
 ·rw [if_pos h, decide_eq_true (show 48 ≤ (c.toNat : Int) from h), Bool.true_and]
 ·rw [if_neg h, decide_eq_false (show ¬ 48 ≤ (c.toNat : Int) from h), Bool.false_and]
theorem letter_impl (c : UInt8) : impl_letterByte.f (c.toNat : Int) = some (letC c) := by
 unfold impl_letterByte.f letC
 by_cases h : (c.toNat : Int) ≥ 97 <;> by_cases h1 : (c.toNat : Int) ≤ 122 <;> by_cases h2 : (c.toNat : Int) ≥ 65 <;> by_cases h3 : (c.toNat : Int) ≤ 90 <;> simp [h, h1, h2, h3] <;> omega
theorem letter_spec (c : UInt8) : spec_l2Letter.f (c.toNat : Int) = some (letC c) := by
 unfold spec_l2Letter.f letC
 by_cases h : (c.toNat : Int) ≥ 97 <;> by_cases h1 : (c.toNat : Int) ≤ 122 <;> by_cases h2 : (c.toNat : Int) ≥ 65 <;> by_cases h3 : (c.toNat : Int) ≤ 90 <;> simp [h, h1, h2, h3] <;> omega
theorem word_impl (c : UInt8) : impl_wordByte.f (c.toNat : Int) = some (wordC c) := by
 unfold impl_wordByte.f wordC
 rw [letter_impl, digit_impl]
 cases letC c <;> cases digC c <;> simp <;> rfl
theorem name_loop_impl (s : ByteArray) (hs : s.size ≤ 9223372036854775807) : Ev (fun k => impl_isName.l0 k s (s.size : Int) 0) ((Y s).all wordC) := by
 refine up_ind s.size (fun i => Ev (fun k => impl_isName.l0 k s (s.size : Int) (i : Int)) (((Y s).drop i).all wordC)) ?_ ?_ 0 (by omega)
 ·rw [Y_drop_end]
  exact ev_step (fun _ => impl_isName.l0.eq_2 ..) (ev_neg (by omega) (ev_now _))
 ·intro i h ih
  refine ev_step (fun _ => impl_isName.l0.eq_2 ..) (ev_pos (by omega) (ev_pos (by omega) (ev_pos (by omega) ?_)))
  rw [bt_at h, Y_drop h, List.all_cons, w64n h hs]
  refine ev_bind (ev_eq (word_impl _)) (ev_ite (fun h1 => ?_) (fun h1 => ?_))
  ·rw [h1]
   exact ih
  ·rw [Bool.eq_false_iff.2 h1]
   exact ev_now _
theorem name_loop_spec (s : ByteArray) (hs : s.size ≤ 9223372036854775807) : Ev (fun k => spec_l2Name.l0 k s 0) ((Y s).all wordC) := by
 refine up_ind s.size (fun i => Ev (fun k => spec_l2Name.l0 k s (i : Int)) (((Y s).drop i).all wordC)) ?_ ?_ 0 (by omega)
 ·rw [Y_drop_end]
  exact ev_step (fun _ => spec_l2Name.l0.eq_2 ..) (ev_neg (by omega) (ev_now _))
 ·intro i h ih
  refine ev_step (fun _ => spec_l2Name.l0.eq_2 ..) (ev_pos (by omega) (ev_pos (by omega) ?_))
  rw [bt_at h, Y_drop h, List.all_cons, w64n h hs]
  unfold wordC
  refine ev_bind (ev_eq (letter_spec _)) (ev_ite (fun h1 => ?_) (fun h1 => ev_bind (ev_eq (digit_spec _)) (ev_ite (fun h2 => ?_) (fun h2 => ev_ite (fun h3 => ?_) (fun h3 => ?_)))))
  ·rw [h1]
   exact ih
  ·rw [h2, Bool.or_true]
   exact ih
  ·rw [decide_eq_true h3, Bool.or_true]
   exact ih
  ·rw [Bool.eq_false_iff.2 h1, Bool.eq_false_iff.2 h2, decide_eq_false h3]
   exact ev_now _
theorem name_impl (s : ByteArray) (hs : s.size ≤ 9223372036854775807) : Ev (fun k => impl_isName.f k s) (nameL (Y s)) := by
 unfold impl_isName.f nameL
 rw [Y_eq]
 refine ev_ite (fun h => ?_) (fun h => ?_)
 ·rw [h]
  exact ev_step (fun _ => impl_isName.j0.eq_2 ..) (ev_pos rfl (ev_now _))
 ·have hl : 1 ≤ (Y s).length := by
   cases e : Y s with
   | nil => exact absurd e h
   | cons a l => simp
  rw [decide_eq_true hl, Y_len, Bool.true_and]
  rw [Y_len] at hl
  refine ev_ite (fun h1 => ?_) (fun h1 => ev_pos (by omega) ?_)
  ·rw [decide_eq_false (by omega)]
   exact ev_step (fun _ => impl_isName.j0.eq_2 ..) (ev_pos rfl (ev_now _))
  ·rw [decide_eq_true (by omega), Bool.true_and]
   have e0 := bt_at (s := s) (i := 0) (by omega)
   have eh : (Y s).head? = some ((Y s)[0]'(by rw [Y_len]; omega)) := by rw [List.head?_eq_getElem?, List.getElem?_eq_getElem]
   rw [show bt s 0 = bt s ((0 : Nat) : Int) from rfl, e0, eh]
   refine ev_bind (ev_eq (digit_impl _)) (ev_step (fun _ => impl_isName.j0.eq_2 ..) (ev_ite (fun h2 => ?_) (fun h2 => ?_)))
   ·rw [Option.any_some, h2]
    exact ev_now _
   ·rw [Option.any_some, Bool.eq_false_iff.2 h2]
    exact name_loop_impl s hs
theorem name_spec (s : ByteArray) (hs : s.size ≤ 9223372036854775807) : Ev (fun k => spec_l2Name.f k s) (nameL (Y s)) := by
 unfold spec_l2Name.f nameL
 rw [Y_len]
 refine ev_ite (fun h => ?_) (fun h => ?_)
 ·rw [decide_eq_false (by omega)]
  exact ev_step (fun _ => spec_l2Name.j0.eq_2 ..) (ev_pos rfl (ev_now _))
 ·rw [decide_eq_true (by omega), Bool.true_and]
  refine ev_ite (fun h1 => ?_) (fun h1 => ev_pos (by omega) ?_)
  ·rw [decide_eq_false (by omega)]
   exact ev_step (fun _ => spec_l2Name.j0.eq_2 ..) (ev_pos rfl (ev_now _))
  ·rw [decide_eq_true (by omega), Bool.true_and]
   have e0 := bt_at (s := s) (i := 0) (by omega)
   have eh : (Y s).head? = some ((Y s)[0]'(by rw [Y_len]; omega)) := by rw [List.head?_eq_getElem?, List.getElem?_eq_getElem]
   rw [show bt s 0 = bt s ((0 : Nat) : Int) from rfl, e0, eh]
   refine ev_bind (ev_eq (digit_spec _)) (ev_step (fun _ => spec_l2Name.j0.eq_2 ..) (ev_ite (fun h2 => ?_) (fun h2 => ?_)))
   ·rw [Option.any_some, h2]
    exact ev_now _
   ·rw [Option.any_some, Bool.eq_false_iff.2 h2]
    exact name_loop_spec s hs
end Go.Proofs.Ytbejcmfpmoaddaa.U
namespace Go.Proofs.Ytbejcmfpmoaddaa.U
open Go.RowKit Go.Proofs.Ytbejcmfpmoaddaa.Pr Go.Proofs.YtbejcmfpmoaddaaW.PrintWords Go.Proofs.YtbejcmfpmoaddaaW.PrintLast Go.Proofs.YtbejcmfpmoaddaaW.PrintMore
set_option linter.unusedVariables false
set_option linter.unusedSimpArgs false
def cn (a b : Int) : Int := if a < b then -1 else if a > b then 1 else 0
theorem cmpNum_spec (a b : Int) : spec_l2CmpNum.f a b = some (cn a b) := by
 unfold spec_l2CmpNum.f cn
 by_cases h : a < b
 ·rw [if_pos h, if_pos h]
 ·rw [if_neg h, if_neg h]
  by_cases h' : a > b
  ·rw [if_pos h', if_pos h']
  ·rw [if_neg h', if_neg h']
theorem less_cmp : ∀ a b : List UInt8, Op.bytesLess a b = decide (cmpL a b < 0)
 | [], [] => rfl
 | [], _ :: _ => rfl
 | _ :: _, [] => rfl
 | a :: l, b :: m => by
  unfold Op.bytesLess cmpL
  rw [less_cmp l m]
  by_cases e : (a.toNat : Int) = (b.toNat : Int)
  ·have : a = b := UInt8.toNat_inj.1 (by omega)
   subst this
   simp
  ·have hne : (a == b) = false := by
    rw [beq_eq_false_iff_ne]
    rintro rfl
    exact e rfl
   rw [if_neg e, hne, Bool.false_and, Bool.or_false]
   by_cases h : (a.toNat : Int) < (b.toNat : Int)
   ·rw [if_pos h]
    have : a < b := UInt8.lt_iff_toNat_lt.2 (by omega)
    simp [this]
   ·rw [if_neg h]
    have : ¬ a < b := fun h' => h (by have := UInt8.lt_iff_toNat_lt.1 h'; omega)
    simp [this]
theorem cmp_spec (s t : ByteArray) (hs : s.size ≤ 9223372036854775807) (ht : t.size ≤ 9223372036854775807) : Ev (fun k => spec_l2CmpText.f k s t) (cmpL (Y s) (Y t)) := by
 refine up_ind (min s.size t.size) (fun i => Ev (fun k => spec_l2CmpText.l0 k s t (i : Int)) (cmpL ((Y s).drop i) ((Y t).drop i))) ?_ ?_ 0 (by omega)
 ·generalize hm : min s.size t.size = m
  rcases Nat.lt_or_ge m s.size with h | h
  ·have e : m = t.size := by omega
   refine ev_step (fun _ => spec_l2CmpText.l0.eq_2 ..) (ev_pos (by omega) ?_)
   rw [decide_eq_false (by omega)]
   refine ev_step (fun _ => spec_l2CmpText.j1.eq_2 ..) (ev_neg (by decide) (ev_bind (ev_eq (cmpNum_spec _ _)) ?_))
   rw [Y_drop h, show List.drop m (Y t) = [] from by rw [e, Y_drop_end]]
   unfold cn cmpL
   rw [if_neg (by omega), if_pos (by omega)]
   exact ev_now _
  ·have e : m = s.size := by omega
   refine ev_step (fun _ => spec_l2CmpText.l0.eq_2 ..) (ev_neg (by omega) ?_)
   refine ev_step (fun _ => spec_l2CmpText.j1.eq_2 ..) (ev_neg (by decide) (ev_bind (ev_eq (cmpNum_spec _ _)) ?_))
   rw [e, Y_drop_end]
   by_cases h2 : s.size < t.size
   ·rw [Y_drop h2]
    unfold cn cmpL
    rw [if_pos (by omega)]
    exact ev_now _
   ·have e2 : s.size = t.size := by omega
    rw [e2, Y_drop_end]
    unfold cn cmpL
    rw [if_neg (by omega), if_neg (by omega)]
    exact ev_now _
 ·intro i h ih
  have h1 : i < s.size := by omega
  have h2 : i < t.size := by omega
  refine ev_step (fun _ => spec_l2CmpText.l0.eq_2 ..) (ev_pos (by omega) ?_)
  rw [decide_eq_true (by omega)]
  refine ev_step (fun _ => spec_l2CmpText.j1.eq_2 ..) (ev_pos rfl (ev_pos (by omega) (ev_pos (by omega) (ev_pos (by omega) ?_))))
  rw [bt_at h1, bt_at h2, Y_drop h1, Y_drop h2, w64n h1 hs]
  have a1 := ((Y s)[i]'(by rw [Y_len]; exact h1)).toNat_lt
  have a2 := ((Y t)[i]'(by rw [Y_len]; exact h2)).toNat_lt
  rw [w64 (x := (((Y s)[i]'(by rw [Y_len]; exact h1)).toNat : Int)) (by omega) (by omega), w64 (x := (((Y t)[i]'(by rw [Y_len]; exact h2)).toNat : Int)) (by omega) (by omega)]
  unfold cmpL
  refine ev_ite (fun h3 => ?_) (fun h3 => ?_)
  ·rw [if_pos h3]
   exact ih
  ·rw [if_neg h3]
   refine ev_bind (ev_eq (cmpNum_spec _ _)) ?_
   unfold cn
   by_cases h4 : (((Y s)[i]'(by rw [Y_len]; exact h1)).toNat : Int) < (((Y t)[i]'(by rw [Y_len]; exact h2)).toNat : Int)
   ·rw [if_pos h4, if_pos h4]
    exact ev_now _
   ·rw [if_neg h4, if_neg h4, if_pos (by omega)]
    exact ev_now _
end Go.Proofs.Ytbejcmfpmoaddaa.U
namespace Go.Proofs.Ytbejcmfpmoaddaa.U
open Go.RowKit Go.Proofs.Ytbejcmfpmoaddaa.Pr Go.Proofs.YtbejcmfpmoaddaaW.PrintWords Go.Proofs.YtbejcmfpmoaddaaW.PrintLast Go.Proofs.YtbejcmfpmoaddaaW.PrintMore
set_option linter.unusedVariables false
set_option linter.unusedSimpArgs false
theorem value_spec (s : ByteArray) (hs : s.size ≤ 9223372036854775807) : Ev (fun k => spec_l2Value.f k s) (valL (Y s)) := by
 unfold spec_l2Value.f valL prL
 rw [Y_len]
 refine ev_ite (fun h => ev_ite (fun h1 => ?_) (fun h1 => ?_)) (fun h => ?_)
 ·rw [decide_eq_true (by omega), decide_eq_true (by omega), Bool.true_and, Bool.true_and]
  exact ev_bind (printed_spec s hs) (ev_now _)
 ·rw [decide_eq_false (show ¬ s.size ≤ 100 from by omega), Bool.false_and, Bool.and_false]
  exact ev_now _
 ·rw [decide_eq_false (by omega), Bool.false_and]
  exact ev_now _
theorem value_impl (s : ByteArray) (hs : s.size ≤ 9223372036854775807) : Ev (fun k => impl_isValue.f k s) (valL (Y s)) := by
 unfold impl_isValue.f valL
 rw [Y_eq, ]
 refine ev_ite (fun h => ?_) (fun h => ?_)
 ·rw [h]
  exact ev_now _
 ·have : 1 ≤ (Y s).length := by
   cases e : Y s with
   | nil => exact absurd e h
   | cons a l => simp
  rw [decide_eq_true this, Bool.true_and]
  exact ev_bind (printed_impl s hs 100) (ev_now _)
end Go.Proofs.Ytbejcmfpmoaddaa.U
namespace Go.Proofs.Ytbejcmfpmoaddaa.U
open Go.RowKit Go.Proofs.Ytbejcmfpmoaddaa.Pr Go.Proofs.YtbejcmfpmoaddaaW.PrintWords Go.Proofs.YtbejcmfpmoaddaaW.PrintLast Go.Proofs.YtbejcmfpmoaddaaW.PrintMore
set_option linter.unusedVariables false
set_option linter.unusedSimpArgs false
def before (p : Option (List UInt8)) (l : List UInt8) : Bool := match p with
 | none => true
 | some q => decide (cmpL q l < 0)
/-- Labels that are good, each name behind the one ahead. -/
def riseL (p : Option (List UInt8)) : List S78 → Bool
 | [] => true
 | x :: xs => nameL (Y x.f0) && valL (Y x.f1) && before p (Y x.f0) && riseL (some (Y x.f0)) xs
def goodL (l : List S78) : Bool := decide (l.length ≤ 20) && riseL none l
def ptL (l : List S78) (i : Nat) : Option (List UInt8) := if i = 0 then none else some (Y (rd_T78 l ((i - 1 : Nat) : Int)).f0)
/-- Texts that fit. -/
def fitL (l : List S78) : Prop := l.length ≤ 9223372036854775807 ∧ ∀ x ∈ l, x.f0.size ≤ 9223372036854775807 ∧ x.f1.size ≤ 9223372036854775807
theorem goodLabels_impl_l (l : List S78) (hf : fitL l) : Ev (fun k => impl_GoodLabels.l0 k l l (l.length : Int) 0) (riseL none l) := by
 obtain ⟨hl, hw⟩ := hf
 have hrd : ∀ (i : Nat) (h : i < l.length), rd_T78 l (i : Int) = l[i] := fun i h => getD_lt h
 refine up_ind l.length (fun i => Ev (fun k => impl_GoodLabels.l0 k l l (l.length : Int) (i : Int)) (riseL (ptL l i) (l.drop i))) ?_ ?_ 0 (by omega)
 ·rw [List.drop_length]
  exact ev_step (fun _ => impl_GoodLabels.l0.eq_2 ..) (ev_neg (by omega) (ev_now _))
 ·intro i h ih
  have hp : ptL l (i + 1) = some (Y l[i].f0) := by unfold ptL; rw [if_neg (by omega), Nat.add_sub_cancel, hrd i h]
  rw [hp] at ih
  obtain ⟨w1, w2⟩ := hw l[i] (List.getElem_mem h)
  have wi : wrap64 ((i : Int) + 1) = ((i + 1 : Nat) : Int) := w64n h hl
  refine ev_step (fun _ => impl_GoodLabels.l0.eq_2 ..) (ev_pos (by omega) (ev_pos (by omega) (ev_pos (by omega) ?_)))
  rw [hrd i h, List.drop_eq_getElem_cons h]
  simp only [riseL]
  refine ev_bind (name_impl _ w1) (ev_ite (fun h1 => ev_bind (value_impl _ w2) (ev_ite (fun h2 => ?_) (fun h2 => ?_))) (fun h1 => ?_))
  ·rw [h1, h2, Bool.true_and, Bool.true_and]
   by_cases hi : i = 0
   ·subst hi
    rw [wi]
    exact ev_neg (by omega) ih
   ·have wm : wrap64 ((i : Int) - 1) = ((i - 1 : Nat) : Int) := by rw [w64 (by omega) (by omega)]; omega
    have hq : ptL l i = some (Y l[i - 1].f0) := by unfold ptL; rw [if_neg hi, hrd (i - 1) (by omega)]
    obtain ⟨w3, _⟩ := hw l[i - 1] (List.getElem_mem (by omega))
    rw [wm, hrd (i - 1) (by omega), hq, wi]
    refine ev_pos (by omega) (ev_pos (by omega) (ev_pos (by omega) ?_))
    simp only [before]
    rw [Y_eq, Y_eq, less_cmp]
    refine ev_ite (fun h3 => ?_) (fun h3 => ?_)
    ·rw [h3, Bool.true_and]
     exact ih
    ·rw [Bool.eq_false_iff.2 h3, Bool.false_and]
     exact ev_now _
  ·rw [h1, Bool.eq_false_iff.2 h2]
   exact ev_now _
  ·rw [Bool.eq_false_iff.2 h1]
   exact ev_now _
theorem goodLabels_impl (l : List S78) (hf : fitL l) : Ev (fun k => impl_GoodLabels.f k l) (goodL l) := by
 unfold impl_GoodLabels.f goodL
 refine ev_ite (fun h => ?_) (fun h => ?_)
 ·rw [decide_eq_false (by omega)]
  exact ev_now _
 ·rw [decide_eq_true (by omega), Bool.true_and]
  exact goodLabels_impl_l l hf
theorem goodLabels_spec_l (l : List S78) (hf : fitL l) : Ev (fun k => spec_GoodLabels.l0 k l l (l.length : Int) 0) (riseL none l) := by
 obtain ⟨hl, hw⟩ := hf
 have hrd : ∀ (i : Nat) (h : i < l.length), rd_T78 l (i : Int) = l[i] := fun i h => getD_lt h
 refine up_ind l.length (fun i => Ev (fun k => spec_GoodLabels.l0 k l l (l.length : Int) (i : Int)) (riseL (ptL l i) (l.drop i))) ?_ ?_ 0 (by omega)
 ·rw [List.drop_length]
  exact ev_step (fun _ => spec_GoodLabels.l0.eq_2 ..) (ev_neg (by omega) (ev_now _))
 ·intro i h ih
  have hp : ptL l (i + 1) = some (Y l[i].f0) := by unfold ptL; rw [if_neg (by omega), Nat.add_sub_cancel, hrd i h]
  rw [hp] at ih
  obtain ⟨w1, w2⟩ := hw l[i] (List.getElem_mem h)
  have wi : wrap64 ((i : Int) + 1) = ((i + 1 : Nat) : Int) := w64n h hl
  refine ev_step (fun _ => spec_GoodLabels.l0.eq_2 ..) (ev_pos (by omega) (ev_pos (by omega) (ev_pos (by omega) ?_)))
  rw [hrd i h, List.drop_eq_getElem_cons h]
  simp only [riseL]
  refine ev_bind (name_spec _ w1) (ev_ite (fun h1 => ev_bind (value_spec _ w2) (ev_ite (fun h2 => ?_) (fun h2 => ?_))) (fun h1 => ?_))
  ·rw [h1, h2, Bool.true_and, Bool.true_and]
   by_cases hi : i = 0
   ·subst hi
    rw [wi]
    exact ev_neg (by omega) ih
   ·have wm : wrap64 ((i : Int) - 1) = ((i - 1 : Nat) : Int) := by rw [w64 (by omega) (by omega)]; omega
    have hq : ptL l i = some (Y l[i - 1].f0) := by unfold ptL; rw [if_neg hi, hrd (i - 1) (by omega)]
    obtain ⟨w3, _⟩ := hw l[i - 1] (List.getElem_mem (by omega))
    rw [wm, hrd (i - 1) (by omega), hq, wi]
    refine ev_pos (by omega) (ev_pos (by omega) (ev_pos (by omega) ?_))
    simp only [before]
    refine ev_bind (cmp_spec _ _ w3 w1) (ev_ite (fun h3 => ?_) (fun h3 => ?_))
    ·rw [decide_eq_false (by omega), Bool.false_and]
     exact ev_now _
    ·rw [decide_eq_true (by omega), Bool.true_and]
     exact ih
  ·rw [h1, Bool.eq_false_iff.2 h2]
   exact ev_now _
  ·rw [Bool.eq_false_iff.2 h1]
   exact ev_now _
theorem goodLabels_spec (l : List S78) (hf : fitL l) : Ev (fun k => spec_GoodLabels.f k l) (goodL l) := by
 unfold spec_GoodLabels.f goodL
 refine ev_ite (fun h => ?_) (fun h => ?_)
 ·rw [decide_eq_false (by omega)]
  exact ev_now _
 ·rw [decide_eq_true (by omega), Bool.true_and]
  exact goodLabels_spec_l l hf
end Go.Proofs.Ytbejcmfpmoaddaa.U
namespace Go.Proofs.Ytbejcmfpmoaddaa.U
open Go.RowKit Go.Proofs.Ytbejcmfpmoaddaa.Pr Go.Proofs.YtbejcmfpmoaddaaW.PrintWords Go.Proofs.YtbejcmfpmoaddaaW.PrintLast Go.Proofs.YtbejcmfpmoaddaaW.PrintMore
set_option linter.unusedVariables false
set_option linter.unusedSimpArgs false
/-- The value under a name. -/
def ofL (n : ByteArray) : List S78 → ByteArray
 | [] => ⟨#[]⟩
 | x :: xs => if Y x.f0 = Y n then x.f1 else ofL n xs
end Go.Proofs.Ytbejcmfpmoaddaa.U
namespace Go.Proofs.Ytbejcmfpmoaddaa.U
open Go.RowKit Go.Proofs.Ytbejcmfpmoaddaa.Pr Go.Proofs.YtbejcmfpmoaddaaW.PrintWords Go.Proofs.YtbejcmfpmoaddaaW.PrintLast Go.Proofs.YtbejcmfpmoaddaaW.PrintMore
set_option linter.unusedVariables false
set_option linter.unusedSimpArgs false
theorem of_impl (l : List S78) (hl : l.length ≤ 9223372036854775807) (n : ByteArray) : Ev (fun k => impl_valueOf.f k l n) (ofL n l) := by
 have hrd : ∀ (i : Nat) (h : i < l.length), rd_T78 l (i : Int) = l[i] := fun i h => getD_lt h
 refine up_ind l.length (fun i => Ev (fun k => impl_valueOf.l0 k n l (l.length : Int) (i : Int)) (ofL n (l.drop i))) ?_ ?_ 0 (by omega)
 ·rw [List.drop_length]
  exact ev_step (fun _ => impl_valueOf.l0.eq_2 ..) (ev_neg (by omega) (ev_now _))
 ·intro i h ih
  refine ev_step (fun _ => impl_valueOf.l0.eq_2 ..) (ev_pos (by omega) (ev_pos (by omega) (ev_pos (by omega) ?_)))
  rw [hrd i h, List.drop_eq_getElem_cons h, w64n h hl, Y_eq, Y_eq]
  simp only [ofL]
  refine ev_ite (fun h1 => ?_) (fun h1 => ?_)
  ·rw [if_pos h1]
   exact ev_now _
  ·rw [if_neg h1]
   exact ih
end Go.Proofs.Ytbejcmfpmoaddaa.U
namespace Go.Proofs.Ytbejcmfpmoaddaa.U
open Go.RowKit Go.Proofs.Ytbejcmfpmoaddaa.Pr Go.Proofs.YtbejcmfpmoaddaaW.PrintWords Go.Proofs.YtbejcmfpmoaddaaW.PrintLast Go.Proofs.YtbejcmfpmoaddaaW.PrintMore
set_option linter.unusedVariables false
set_option linter.unusedSimpArgs false
theorem of_spec (l : List S78) (hl : l.length ≤ 9223372036854775807) (n : ByteArray) : Ev (fun k => spec_l2Of.f k l n) (ofL n l) := by
 have hrd : ∀ (i : Nat) (h : i < l.length), rd_T78 l (i : Int) = l[i] := fun i h => getD_lt h
 refine up_ind l.length (fun i => Ev (fun k => spec_l2Of.l0 k n l (l.length : Int) (i : Int)) (ofL n (l.drop i))) ?_ ?_ 0 (by omega)
 ·rw [List.drop_length]
  exact ev_step (fun _ => spec_l2Of.l0.eq_2 ..) (ev_neg (by omega) (ev_now _))
 ·intro i h ih
  refine ev_step (fun _ => spec_l2Of.l0.eq_2 ..) (ev_pos (by omega) (ev_pos (by omega) (ev_pos (by omega) ?_)))
  rw [hrd i h, List.drop_eq_getElem_cons h, w64n h hl, Y_eq, Y_eq]
  simp only [ofL]
  refine ev_ite (fun h1 => ?_) (fun h1 => ?_)
  ·rw [if_pos h1]
   exact ev_now _
  ·rw [if_neg h1]
   exact ih
end Go.Proofs.Ytbejcmfpmoaddaa.U
namespace Go.Proofs.Ytbejcmfpmoaddaa.U
open Go.RowKit Go.Proofs.Ytbejcmfpmoaddaa.Pr Go.Proofs.YtbejcmfpmoaddaaW.PrintWords Go.Proofs.YtbejcmfpmoaddaaW.PrintLast Go.Proofs.YtbejcmfpmoaddaaW.PrintMore
set_option linter.unusedVariables false
set_option linter.unusedSimpArgs false
theorem ev_if {α : Type} {c : Prop} [Decidable c] {a b : Nat → Option α} {x y : α} (h : Ev a x) (h' : Ev b y) : Ev (fun k => if c then a k else b k) (if c then x else y) := by
 by_cases hc : c
 ·rw [if_pos hc]; exact ev_pos hc h
 ·rw [if_neg hc]; exact ev_neg hc h'
theorem fill_l (s : ByteArray) (hs : s.size ≤ 4611686018427387904) : ∀ d i : Nat, i + d = s.size ∨ (d = 0 ∧ s.size ≤ i ∧ i ≤ s.size + 1) → ∃ v, Ev (fun k => impl_isFilling.l0 k s (i : Int)) v ∧ Ev (fun k => spec_l4Filling.l0 k s (i : Int)) v ∧ (s.size ≤ i → v = true) := by
 intro d
 induction d using Nat.strongRecOn with
 | ind d ih =>
  intro i h
  by_cases hi : i < s.size
  ·have e1 : wrap64 ((i : Int) + 1) = ((i + 1 : Nat) : Int) := w64n hi (by omega)
   have e2 : wrap64 ((((i + 1 : Nat)) : Int) + 1) = ((i + 2 : Nat) : Int) := by unfold wrap64; omega
   by_cases c : bt s (i : Int) = 36
   ·by_cases c1 : i + 1 = s.size
    ·refine ⟨false, ?_, ?_, fun hx => by omega⟩
     ·refine ev_step (fun _ => impl_isFilling.l0.eq_2 ..) (ev_pos (by omega) (ev_pos (by omega) (ev_pos c (ev_pos ?_ (ev_now _)))))
      rw [e1]; omega
     ·refine ev_step (fun _ => spec_l4Filling.l0.eq_2 ..) (ev_pos (by omega) (ev_pos (by omega) (ev_pos c (ev_pos ?_ (ev_now _)))))
      rw [e1]; omega
    ·have lead : ∀ v : Bool, (bt s ((i + 1 : Nat) : Int) = 36 → v = v) → True := fun _ _ => trivial
     obtain ⟨v, h1, h2, h3⟩ := ih (d - 2) (by omega) (i + 2) (by omega)
     by_cases c2 : bt s ((i + 1 : Nat) : Int) = 36
     ·refine ⟨v, ?_, ?_, fun hx => by omega⟩
      ·refine ev_step (fun _ => impl_isFilling.l0.eq_2 ..) (ev_pos (by omega) (ev_pos (by omega) (ev_pos c (ev_neg ?_ ?_))))
       ·rw [e1]; omega
       ·rw [e1, e2]
        exact ev_pos (by omega) (ev_pos (by omega) (ev_pos c2 h1))
      ·refine ev_step (fun _ => spec_l4Filling.l0.eq_2 ..) (ev_pos (by omega) (ev_pos (by omega) (ev_pos c (ev_neg ?_ ?_))))
       ·rw [e1]; omega
       ·rw [e1, e2]
        exact ev_pos (by omega) (ev_pos (by omega) (ev_pos c2 h2))
     ·refine ⟨if bt s ((i + 1 : Nat) : Int) < 49 then false else if bt s ((i + 1 : Nat) : Int) > 57 then false else v, ?_, ?_, fun hx => by omega⟩
      ·refine ev_step (fun _ => impl_isFilling.l0.eq_2 ..) (ev_pos (by omega) (ev_pos (by omega) (ev_pos c (ev_neg ?_ ?_))))
       ·rw [e1]; omega
       ·rw [e1, e2]
        exact ev_pos (by omega) (ev_pos (by omega) (ev_neg c2 (ev_if (ev_now _) (ev_if (ev_now _) h1))))
      ·refine ev_step (fun _ => spec_l4Filling.l0.eq_2 ..) (ev_pos (by omega) (ev_pos (by omega) (ev_pos c (ev_neg ?_ ?_))))
       ·rw [e1]; omega
       ·rw [e1, e2]
        exact ev_pos (by omega) (ev_pos (by omega) (ev_neg c2 (ev_if (ev_now _) (ev_if (ev_now _) h2))))
   ·obtain ⟨v, h1, h2, h3⟩ := ih (d - 1) (by omega) (i + 1) (by omega)
    refine ⟨v, ?_, ?_, fun hx => by omega⟩
    ·refine ev_step (fun _ => impl_isFilling.l0.eq_2 ..) (ev_pos (by omega) (ev_pos (by omega) (ev_neg c ?_)))
     rw [e1]; exact h1
    ·refine ev_step (fun _ => spec_l4Filling.l0.eq_2 ..) (ev_pos (by omega) (ev_pos (by omega) (ev_neg c ?_)))
     rw [e1]; exact h2
  ·exact ⟨true, ev_step (fun _ => impl_isFilling.l0.eq_2 ..) (ev_neg (by omega) (ev_now _)), ev_step (fun _ => spec_l4Filling.l0.eq_2 ..) (ev_neg (by omega) (ev_now _)), fun _ => rfl⟩
theorem fill_two (s : ByteArray) (hs : s.size ≤ 4611686018427387904) : ∃ v, Ev (fun k => impl_isFilling.f k s) v ∧ Ev (fun k => spec_l4Filling.f k s) v ∧ (s.toList = [] → v = true) := by
 obtain ⟨v, h1, h2, h3⟩ := fill_l s hs s.size 0 (by omega)
 have hp1 := printed_impl s (by omega) 100
 have hp2 := printed_spec s (by omega)
 by_cases hz : s.size ≤ 100
 ·cases hp : (Y s).all prC with
  | true =>
   refine ⟨v, ?_, ?_, fun he => h3 ?_⟩
   ·unfold impl_isFilling.f
    refine ev_bind hp1 (ev_pos ?_ h1)
    unfold prL; rw [Y_len, hp, decide_eq_true hz]; rfl
   ·unfold spec_l4Filling.f
    refine ev_neg (by omega) (ev_bind hp2 (ev_step (fun _ => spec_l4Filling.j0.eq_2 ..) (ev_neg (by rw [hp]; decide) h2)))
   ·have := Y_len s; rw [show Y s = [] from Y_eq.symm.trans he] at this; simp at this; omega
  | false =>
   refine ⟨false, ?_, ?_, fun he => ?_⟩
   ·unfold impl_isFilling.f
    refine ev_bind hp1 (ev_neg ?_ (ev_now _))
    unfold prL; rw [hp, Bool.and_false]; decide
   ·unfold spec_l4Filling.f
    refine ev_neg (by omega) (ev_bind hp2 (ev_step (fun _ => spec_l4Filling.j0.eq_2 ..) (ev_pos (by rw [hp]; rfl) (ev_now _))))
   ·rw [show Y s = [] from Y_eq.symm.trans he] at hp; cases hp
 ·refine ⟨false, ?_, ?_, fun he => ?_⟩
  ·unfold impl_isFilling.f
   refine ev_bind hp1 (ev_neg ?_ (ev_now _))
   unfold prL; rw [Y_len, decide_eq_false hz, Bool.false_and]; decide
  ·unfold spec_l4Filling.f
   exact ev_pos (by omega) (ev_step (fun _ => spec_l4Filling.j0.eq_2 ..) (ev_pos rfl (ev_now _)))
  ·have := Y_len s; rw [show Y s = [] from Y_eq.symm.trans he] at this; simp at this; omega
end Go.Proofs.Ytbejcmfpmoaddaa.U
namespace Go.Proofs.Ytbejcmfpmoaddaa.U
open Go.RowKit Go.Proofs.Ytbejcmfpmoaddaa.Pr Go.Proofs.YtbejcmfpmoaddaaW.PrintWords Go.Proofs.YtbejcmfpmoaddaaW.PrintLast Go.Proofs.YtbejcmfpmoaddaaW.PrintMore
set_option linter.unusedVariables false
set_option linter.unusedSimpArgs false
/-- What both programs' GoodPattern answer. -/
def patB (s : ByteArray) : Bool := prL 100 (Y s) && (altA s 0 [] []).2
/-- A pattern's alternatives, as codes. -/
def patA (s : ByteArray) : List (List Int) := if prL 100 (Y s) = true then (altA s 0 [] []).1 else []
theorem prL_size {s : ByteArray} {n : Nat} (h : prL n (Y s) = true) : s.size ≤ n := by
 unfold prL at h
 rw [Y_len, Bool.and_eq_true, decide_eq_true_eq] at h
 exact h.1
theorem alt_spec (s : ByteArray) (hs : s.size ≤ 9223372036854775807) : Ev (fun k => spec_l2Alternatives.f k s) (patA s, patB s) := by
 unfold spec_l2Alternatives.f patB patA prL
 rw [Y_len]
 refine ev_ite (fun h => ?_) (fun h => ?_)
 ·rw [decide_eq_false (by omega), Bool.false_and, Bool.false_and, if_neg (by decide)]
  exact ev_now _
 ·rw [decide_eq_true (by omega), Bool.true_and]
  refine ev_bind (printed_spec s hs) (ev_ite (fun h1 => ?_) (fun h1 => ?_))
  ·rw [h1, Bool.true_and, if_pos rfl]
   exact ev_now _
  ·rw [Bool.eq_false_iff.2 h1, Bool.false_and, if_neg (by decide)]
   exact ev_now _
theorem alt_impl (s : ByteArray) (hs : s.size ≤ 9223372036854775807) : Ev (fun k => impl_alternatives.f k s) ((patA s).map (List.map altP), patB s) := by
 unfold impl_alternatives.f patB patA
 refine ev_bind (printed_impl s hs 100) (ev_ite (fun h1 => ?_) (fun h1 => ?_))
 ·have h2 := prL_size h1
  rw [h1, Bool.true_and, if_pos rfl]
  exact ev_pos (by omega) (ev_now _)
 ·rw [Bool.eq_false_iff.2 h1, Bool.false_and, if_neg (by decide)]
  exact ev_now _
theorem pat_spec (s : ByteArray) (hs : s.size ≤ 9223372036854775807) : Ev (fun k => spec_GoodPattern.f k s) (patB s) := by
 unfold spec_GoodPattern.f
 exact ev_bind (alt_spec s hs) (ev_now _)
theorem pat_impl (s : ByteArray) (hs : s.size ≤ 9223372036854775807) : Ev (fun k => impl_GoodPattern.f k s) (patB s) := by
 unfold impl_GoodPattern.f
 exact ev_bind (alt_impl s hs) (ev_now _)
end Go.Proofs.Ytbejcmfpmoaddaa.U
namespace Go.Proofs.Ytbejcmfpmoaddaa.U
open Go.RowKit Go.Proofs.Ytbejcmfpmoaddaa.Pr Go.Proofs.YtbejcmfpmoaddaaW.PrintWords Go.Proofs.YtbejcmfpmoaddaaW.PrintLast Go.Proofs.YtbejcmfpmoaddaaW.PrintMore
set_option linter.unusedVariables false
set_option linter.unusedSimpArgs false
theorem any_all_String {α : Type} (P : Nat → α → Option Bool) (p : α → Bool) : ∀ l : List α, (∀ x ∈ l, Ev (fun k => P k x) (p x)) → ∃ K, ∀ k, K ≤ k → ∀ x ∈ l, P k x = some (p x) := by
 intro l
 induction l with
 | nil => intro _; exact ⟨0, fun _ _ _ h => by cases h⟩
 | cons y l ih =>
  intro h
  obtain ⟨K, h1⟩ := ih (fun x hx => h x (List.mem_cons_of_mem _ hx))
  obtain ⟨K', h2⟩ := h y (List.mem_cons_self ..)
  refine ⟨max K K', fun k hk x hx => ?_⟩
  rcases List.mem_cons.1 hx with rfl | hx
  ·exact h2 k (by omega)
  ·exact h1 k (by omega) x hx
theorem any_at_String (P : ByteArray → Option Bool) (p : ByteArray → Bool) (l : List ByteArray) (hl : l.length ≤ 9223372036854775807) (h : ∀ x ∈ l, P x = some (p x)) : ∀ (d k i : Nat), i + d = l.length → d < k → ∃ r, slices_IndexFunc_string_string.l0 P l k (i : Int) = some r ∧ decide (0 ≤ r) = (l.drop i).any p := by
 have hrd : ∀ (i : Nat) (h : i < l.length), rdOf ByteArray.empty l (i : Int) = l[i] := fun i h => getD_lt h
 intro d
 induction d with
 | zero =>
  intro k i h1 h2
  obtain ⟨k, rfl⟩ : ∃ m, k = m + 1 := ⟨k - 1, by omega⟩
  simp only [slices_IndexFunc_string_string.l0]
  rw [if_neg (by omega), List.drop_eq_nil_of_le (by omega), List.any_nil]
  exact ⟨-1, rfl, rfl⟩
 | succ d ih =>
  intro k i h1 h2
  obtain ⟨k, rfl⟩ : ∃ m, k = m + 1 := ⟨k - 1, by omega⟩
  have hi : i < l.length := by omega
  have hp : P l[i] = some (p l[i]) := h l[i] (List.getElem_mem hi)
  simp only [slices_IndexFunc_string_string.l0]
  rw [if_pos (by omega), if_pos (by omega), hrd i hi, hp, Option.bind_some, List.drop_eq_getElem_cons hi, List.any_cons, w64n hi (by omega)]
  by_cases hq : p l[i] = true
  ·rw [if_pos hq, hq, Bool.true_or]
   exact ⟨i, rfl, decide_eq_true (by omega)⟩
  ·rw [if_neg hq, Bool.eq_false_iff.2 hq, Bool.false_or]
   exact ih k (i + 1) (by omega) (by omega)
theorem any_String (P : Nat → ByteArray → Option Bool) (p : ByteArray → Bool) (l : List ByteArray) (hl : l.length ≤ 9223372036854775807) (h : ∀ x ∈ l, Ev (fun k => P k x) (p x)) : Ev (fun k => slices_ContainsFunc_string_string.f k (P k) l) (l.any p) := by
 obtain ⟨K, hK⟩ := any_all_String P p l h
 refine ⟨max K (l.length + 1), fun k hk => ?_⟩
 obtain ⟨r, h1, h2⟩ := any_at_String (P k) p l hl (hK k (by omega)) l.length k 0 (by omega) (by omega)
 have h3 : slices_IndexFunc_string_string.f k (P k) l = some r := h1
 show ((slices_IndexFunc_string_string.f k (P k) l).bind fun j => some (decide (0 ≤ j))) = some (l.any p)
 rw [h3, Option.bind_some, h2]
 rfl
end Go.Proofs.Ytbejcmfpmoaddaa.U
namespace Go.Proofs.Ytbejcmfpmoaddaa.U
open Go.RowKit Go.Proofs.Ytbejcmfpmoaddaa.Pr Go.Proofs.YtbejcmfpmoaddaaW.PrintWords Go.Proofs.YtbejcmfpmoaddaaW.PrintLast Go.Proofs.YtbejcmfpmoaddaaW.PrintMore
set_option linter.unusedVariables false
set_option linter.unusedSimpArgs false
theorem toStringS (l : List ByteArray) (hl : (l.length ≤ 1048576 ∧ ∀ y ∈ l, y.size ≤ 1048576)) : Ev (fun k => laws_toStringS.f k l) (l) := by
 obtain ⟨hl, hs⟩ := hl
 unfold laws_toStringS.f
 repeat (first | (with_reducible refine ev_pos (by first | omega | rfl | decide) ?_) | (with_reducible refine ev_neg (by first | omega | decide) ?_))
 have key := ev_copy (F := fun k y i => laws_toStringS.l0 k l y i) (fun x => x) l (List.replicate ((l.length : Int) : Int).toNat (⟨#[]⟩ : ByteArray)) (by simp) ?step ?done
 case step =>
  intro i h y r hy hr
  refine ev_step (fun _ => laws_toStringS.l0.eq_2 ..) ?_
  repeat (first | (with_reducible refine ev_pos (by first | omega | rfl | decide) ?_) | (with_reducible refine ev_neg (by first | omega | decide) ?_))
  rw [rdOf_at h, w64n h (by omega), Int.toNat_natCast]
  exact hr
 case done =>
  intro y hy
  refine ev_step (fun _ => laws_toStringS.l0.eq_2 ..) ?_
  repeat (first | (with_reducible refine ev_pos (by first | omega | rfl | decide) ?_) | (with_reducible refine ev_neg (by first | omega | decide) ?_))
  exact ev_now _
 simpa using key
theorem eqStringS (l : List ByteArray) (hl : l.length ≤ 1048576) : Ev (fun k => laws_eqStringS.f k l l) true := by
 unfold laws_eqStringS.f
 refine ev_pos rfl ?_
 refine up_ind l.length (fun i => Ev (fun k => laws_eqStringS.l0 k l l (i : Int)) true) ?_ ?_ 0 (by omega)
 ·refine ev_step (fun _ => laws_eqStringS.l0.eq_2 ..) ?_
  refine ev_neg (by omega) ?_
  exact ev_now _
 ·intro i h ih
  refine ev_step (fun _ => laws_eqStringS.l0.eq_2 ..) ?_
  repeat (first | (with_reducible refine ev_pos (by first | omega | rfl | decide) ?_) | (with_reducible refine ev_neg (by first | omega | decide) ?_))
  rw [w64n h (by omega)]
  exact ih
theorem szStringS (l : List ByteArray) (c : Int) (h0 : 0 ≤ c) (h1 : c ≤ 1048576) (hl : l.length ≤ maxLen) (hw : ∀ x ∈ l, x.size ≤ maxLen) : ∃ r, Ev (fun k => laws_szStringS.f k l c) r ∧ r ≤ c ∧ (0 ≤ r → (l.length ≤ 1048576 ∧ ∀ y ∈ l, y.size ≤ 1048576)) := by
 simp only [maxLen] at hl
 unfold laws_szStringS.f
 rw [w64 (x := c - (l.length : Int)) (by omega) (by omega)]
 by_cases hn : c - (l.length : Int) < 0
 ·exact ⟨-1, ev_pos hn (ev_now _), by omega, fun h => absurd h (by decide)⟩
 ·have key := up_ind l.length (fun i => ∀ c : Int, 0 ≤ c → c ≤ 1048576 → ∃ r, Ev (fun k => laws_szStringS.l0 k l c (i : Int)) r ∧ r ≤ c ∧ (0 ≤ r → ∀ j (h : j < l.length), i ≤ j → l[j].size ≤ 1048576)) ?d ?s 0 (by omega) (c - (l.length : Int)) (by omega) (by omega)
  case d => exact fun c h0 h1 => ⟨c, ev_step (fun _ => laws_szStringS.l0.eq_2 ..) (ev_neg (by omega) (ev_now _)), Int.le_refl _, fun _ j h hj => by omega⟩
  case s =>
   intro i h ih c h0 h1
   have hz := hw _ (List.getElem_mem h)
   simp only [maxLen] at hz
   by_cases hr : c - (l[i].size : Int) < 0
   ·refine ⟨-1, ev_step (fun _ => laws_szStringS.l0.eq_2 ..) ?_, by omega, fun h => absurd h (by decide)⟩
    repeat (first | (with_reducible refine ev_pos (by first | omega | rfl | decide) ?_) | (with_reducible refine ev_neg (by first | omega | decide) ?_))
    rw [rdOf_at h, w64 (x := c - (l[i].size : Int)) (by omega) (by omega)]
    exact ev_pos hr (ev_now _)
   ·obtain ⟨r, e, hrc, hs⟩ := ih (c - (l[i].size : Int)) (by omega) (by omega)
    refine ⟨r, ev_step (fun _ => laws_szStringS.l0.eq_2 ..) ?_, by omega, fun h2 j hj hij => ?_⟩
    ·repeat (first | (with_reducible refine ev_pos (by first | omega | rfl | decide) ?_) | (with_reducible refine ev_neg (by first | omega | decide) ?_))
     rw [rdOf_at h, w64 (x := c - (l[i].size : Int)) (by omega) (by omega)]
     refine ev_neg hr ?_
     rw [w64n h (by omega)]
     exact e
    ·by_cases ej : j = i
     ·subst ej
      omega
     ·exact hs h2 j hj (by omega)
  obtain ⟨r, e, hrc, hs⟩ := key
  refine ⟨r, ev_neg hn e, by omega, fun h => ⟨by omega, fun y hy => ?_⟩⟩
  obtain ⟨j, hj, rfl⟩ := List.getElem_of_mem hy
  exact hs h j hj (by omega)
end Go.Proofs.Ytbejcmfpmoaddaa.U
namespace Go.Proofs.Ytbejcmfpmoaddaa.U
open Go.RowKit Go.Proofs.Ytbejcmfpmoaddaa.Pr Go.Proofs.YtbejcmfpmoaddaaW.PrintWords Go.Proofs.YtbejcmfpmoaddaaW.PrintLast Go.Proofs.YtbejcmfpmoaddaaW.PrintMore
set_option linter.unusedVariables false
set_option linter.unusedSimpArgs false
def oneL (l : List Int) (a : Int) : Bool := l.any fun y => decide (y = a)
theorem one_index (l : List Int) (hl : l.length ≤ 1048576) (s : Int) : ∃ r, Ev (fun k => slices_Index_int_int.f k l s) r ∧ decide (r ≥ 0) = oneL l s := by
 unfold slices_Index_int_int.f oneL
 refine up_ind l.length (fun i => ∃ r, Ev (fun k => slices_Index_int_int.l0 k l s (l.length : Int) (i : Int)) r ∧ decide (r ≥ 0) = ((l.drop i).any fun y => decide (y = s))) ?_ ?_ 0 (by omega)
 ·rw [List.drop_length]
  exact ⟨-1, ev_step (fun _ => slices_Index_int_int.l0.eq_2 ..) (ev_neg (by omega) (ev_now _)), rfl⟩
 ·intro i h ⟨r, ih, hr⟩
  rw [List.drop_eq_getElem_cons h, List.any_cons]
  by_cases h1 : s = l[i]
  ·refine ⟨i, ev_step (fun _ => slices_Index_int_int.l0.eq_2 ..) (ev_pos (by omega) (ev_pos (by omega) (ev_pos (by omega) ?_))), ?_⟩
   ·rw [rd_at h]
    exact ev_pos h1 (ev_now _)
   ·rw [decide_eq_true h1.symm, decide_eq_true (by omega), Bool.true_or]
  ·refine ⟨r, ev_step (fun _ => slices_Index_int_int.l0.eq_2 ..) (ev_pos (by omega) (ev_pos (by omega) (ev_pos (by omega) ?_))), ?_⟩
   ·rw [rd_at h, w64n h (by omega)]
    exact ev_neg h1 ih
   ·rw [decide_eq_false (show ¬ l[i] = s from fun e => h1 e.symm), Bool.false_or]
    exact hr
theorem one_impl (l : List Int) (hl : l.length ≤ 1048576) (s : Int) : Ev (fun k => impl_isOne.f k s l) (oneL l s) := by
 obtain ⟨r, h1, h2⟩ := one_index l hl s
 unfold impl_isOne.f slices_Contains_int_int.f
 rw [← h2]
 exact ev_bind (ev_bind h1 (ev_now _)) (ev_now _)
section
variable (a : Int) (fr : List ByteArray) (sep pat tg val : ByteArray) (md : Int) (an p1 p2 tn vf : Bool)
def rJ3 (b : Bool) : Bool := if b = true then false else if oneL [5, 6, 7] a = true then (if (fr.length : Int) > 0 then false else if sep.toList = [] then (if pat.toList = [] then true else !(oneL [4, 8] a)) else false) else (if pat.toList = [] then true else !(oneL [4, 8] a))
def rJ2 (b : Bool) : Bool := if b = true then false else if a = 4 then (if md < 1 then rJ3 a fr sep pat true else if md > 1000 then rJ3 a fr sep pat true else rJ3 a fr sep pat false) else rJ3 a fr sep pat (md != 0)
def rJ1 (b : Bool) : Bool := if b = true then false else if vf = true then (if val.toList = [] then rJ2 a fr sep pat md false else rJ2 a fr sep pat md (!(oneL [3, 5] a))) else rJ2 a fr sep pat md true
def rJ0 (b : Bool) : Bool := if b = true then false else if (oneL [3, 4, 8] a != (tg.toList != ([] : List UInt8))) = true then rJ1 a fr sep pat val md vf true else if tg.toList = [] then rJ1 a fr sep pat val md vf false else rJ1 a fr sep pat val md vf (!tn)
def rI : Bool := if a < 1 then rJ0 a fr sep pat tg val md tn vf true else if a > 8 then rJ0 a fr sep pat tg val md tn vf true else if (fr.length : Int) > 10 then rJ0 a fr sep pat tg val md tn vf true else if an = true then rJ0 a fr sep pat tg val md tn vf true else if p1 = true then rJ0 a fr sep pat tg val md tn vf (!p2) else rJ0 a fr sep pat tg val md tn vf true
def sJ8 (b : Bool) : Bool := if b = true then (if vf = true then (if a = 4 then (if md ≥ 1 then decide (md ≤ 1000) else false) else md == 0) else false) else (if val.toList = [] then (if a = 4 then (if md ≥ 1 then decide (md ≤ 1000) else false) else md == 0) else false)
def sJ7 : Bool := if a = 3 then sJ8 a val md vf true else sJ8 a val md vf (a == 5)
def sJ6 (b : Bool) : Bool := if b = true then (if tn = true then sJ7 a val md vf else false) else (if tg.toList = [] then sJ7 a val md vf else false)
def sJ5 (x6 b : Bool) : Bool := if b = true then false else if x6 = true then sJ6 a tg val md tn vf true else sJ6 a tg val md tn vf (a == 3)
def sJ4 (b : Bool) : Bool := if b = true then sJ5 a tg val md tn vf b (pat.toList != ([] : List UInt8)) else sJ5 a tg val md tn vf b false
def sJ3 (b : Bool) : Bool := if b = true then false else if a = 4 then sJ4 a pat tg val md tn vf true else sJ4 a pat tg val md tn vf (a == 8)
def sJ2 (b : Bool) : Bool := if b = true then (if (fr.length : Int) > 0 then sJ3 a pat tg val md tn vf true else sJ3 a pat tg val md tn vf (sep.toList != ([] : List UInt8))) else sJ3 a pat tg val md tn vf false
def sL : Bool := if an = true then false else if a = 5 then sJ2 a fr sep pat tg val md tn vf true else if a = 6 then sJ2 a fr sep pat tg val md tn vf true else sJ2 a fr sep pat tg val md tn vf (a == 7)
def sJ0 (b : Bool) : Bool := if b = true then false else sL a fr sep pat tg val md an tn vf
def sI : Bool := if a < 1 then sJ0 a fr sep pat tg val md an tn vf true else if a > 8 then sJ0 a fr sep pat tg val md an tn vf true else if (fr.length : Int) > 10 then sJ0 a fr sep pat tg val md an tn vf true else if p1 = true then sJ0 a fr sep pat tg val md an tn vf (!p2) else sJ0 a fr sep pat tg val md an tn vf true
theorem rel_same (ht : tg.toList = [] → tn = false) (hv : val.toList = [] → vf = true) : rI a fr sep pat tg val md an p1 p2 tn vf = sI a fr sep pat tg val md an p1 p2 tn vf := by
 by_cases ha : a < 1
 ·simp [rI, sI, ha, rJ0, sJ0]
 by_cases hb : a > 8
 ·simp [rI, sI, ha, hb, rJ0, sJ0]
 have h8 : a = 1 ∨ a = 2 ∨ a = 3 ∨ a = 4 ∨ a = 5 ∨ a = 6 ∨ a = 7 ∨ a = 8 := by omega
 cases an with
 | true => simp only [rI, sI, sJ0, sL, rJ0, if_true, if_false, ite_self, Bool.false_eq_true]
 | false =>
  cases p1 with
  | false => simp only [rI, sI, sJ0, rJ0, if_true, if_false, ite_self, Bool.false_eq_true]
  | true =>
   cases p2 with
   | false => simp only [rI, sI, sJ0, rJ0, if_true, if_false, ite_self, Bool.false_eq_true, Bool.not_false]
   | true =>
    by_cases hl : (fr.length : Int) > 10
    ·simp only [rI, sI, sJ0, rJ0, if_true, if_false, ite_self, Bool.false_eq_true, hl]
    ·have key : rJ0 a fr sep pat tg val md tn vf false = sL a fr sep pat tg val md false tn vf := by
      by_cases t0 : tg.toList = [] <;> by_cases v0 : val.toList = [] <;> by_cases q0 : pat.toList = [] <;> by_cases s0 : sep.toList = [] <;> by_cases f0 : fr.length > 0 <;>
       (try rw [ht t0]) <;> (try rw [hv v0]) <;>
       rcases h8 with rfl | rfl | rfl | rfl | rfl | rfl | rfl | rfl <;>
       simp [rJ0, rJ1, rJ2, rJ3, sL, sJ2, sJ3, sJ4, sJ5, sJ6, sJ7, sJ8, oneL, t0, v0, q0, s0, f0] <;> (cases tn <;> cases vf <;> first | done | (by_cases m0 : md = 0 <;> simp [m0]; done) | (by_cases m1 : md < 1 <;> by_cases m2 : 1000 < md <;> simp [m1, m2] <;> omega))
     simp only [rI, sI, sJ0, if_neg ha, if_neg hb, if_neg hl, if_true, if_false, Bool.false_eq_true, Bool.not_true, key]
end
section
variable (a : Int) (fr : List ByteArray) (sep pat tg val : ByteArray) (md : Int) (vf : Bool)
theorem i_j3 (b : Bool) : Ev (fun k => impl_GoodRelabel.j3 k a b a fr sep pat tg val md) (rJ3 a fr sep pat b) := by
 unfold rJ3
 exact ev_step (fun _ => impl_GoodRelabel.j3.eq_2 ..) (ev_if (ev_now _) (ev_bind (one_impl _ (by simp) _) (ev_if (ev_if (ev_now _) (ev_if (ev_if (ev_now _) (ev_bind (one_impl _ (by simp) _) (ev_now _))) (ev_now _))) (ev_if (ev_now _) (ev_bind (one_impl _ (by simp) _) (ev_now _))))))
theorem i_j2 (b : Bool) : Ev (fun k => impl_GoodRelabel.j2 k a b a fr sep pat tg val md) (rJ2 a fr sep pat md b) := by
 unfold rJ2
 exact ev_step (fun _ => impl_GoodRelabel.j2.eq_2 ..) (ev_if (ev_now _) (ev_if (ev_if (i_j3 ..) (ev_if (i_j3 ..) (i_j3 ..))) (i_j3 ..)))
theorem i_j1 (hv : Ev (fun k => impl_isFilling.f k val) vf) (b : Bool) : Ev (fun k => impl_GoodRelabel.j1 k a b a fr sep pat tg val md) (rJ1 a fr sep pat val md vf b) := by
 unfold rJ1
 exact ev_step (fun _ => impl_GoodRelabel.j1.eq_2 ..) (ev_if (ev_now _) (ev_bind hv (ev_if (ev_if (i_j2 ..) (ev_bind (one_impl _ (by simp) _) (i_j2 ..))) (i_j2 ..))))
theorem i_j0 (hv : Ev (fun k => impl_isFilling.f k val) vf) (ht : tg.size ≤ 9223372036854775807) (b : Bool) : Ev (fun k => impl_GoodRelabel.j0 k a b a fr sep pat tg val md) (rJ0 a fr sep pat tg val md (nameL (Y tg)) vf b) := by
 unfold rJ0
 exact ev_step (fun _ => impl_GoodRelabel.j0.eq_2 ..) (ev_if (ev_now _) (ev_bind (one_impl _ (by simp) _) (ev_if (i_j1 _ _ _ _ _ _ _ _ hv _) (ev_if (i_j1 _ _ _ _ _ _ _ _ hv _) (ev_bind (name_impl _ ht) (i_j1 _ _ _ _ _ _ _ _ hv _))))))
def anB : Bool := fr.any fun x => !(nameL (Y x))
theorem rel_impl (hv : Ev (fun k => impl_isFilling.f k val) vf) (ht : tg.size ≤ 9223372036854775807) (hp : pat.size ≤ 9223372036854775807) (hs : sep.size ≤ 9223372036854775807) (hf : fr.length ≤ 9223372036854775807 ∧ ∀ x ∈ fr, x.size ≤ 9223372036854775807) :
  Ev (fun k => impl_GoodRelabel.f k a fr sep pat tg val md) (rI a fr sep pat tg val md (anB fr) (prL 10 (Y sep)) (patB pat) (nameL (Y tg)) vf) := by
 unfold rI impl_GoodRelabel.f
 have h0 := i_j0 a fr sep pat tg val md vf hv ht
 have ha : Ev (fun k => any_68_69.f k fr) (anB fr) :=
  any_String (fun k x => impl_GoodRelabel_1.f k x) (fun x => !(nameL (Y x))) fr hf.1 (fun x hx => ev_bind (name_impl x (hf.2 x hx)) (ev_now _))
 exact ev_if (h0 _) (ev_if (h0 _) (ev_if (h0 _) (ev_bind ha (ev_if (h0 _) (ev_bind (printed_impl sep hs 10) (ev_if (ev_bind (pat_impl pat hp) (h0 _)) (h0 _)))))))
theorem s_j8 (hv : Ev (fun k => spec_l4Filling.f k val) vf) (b : Bool) : Ev (fun k => spec_GoodRelabel.j8 k b a fr sep pat tg val md) (sJ8 a val md vf b) := by
 unfold sJ8
 exact ev_step (fun _ => spec_GoodRelabel.j8.eq_2 ..) (ev_if (ev_bind hv (ev_if (ev_if (ev_if (ev_now _) (ev_now _)) (ev_now _)) (ev_now _))) (ev_if (ev_if (ev_if (ev_now _) (ev_now _)) (ev_now _)) (ev_now _)))
theorem s_j7 (hv : Ev (fun k => spec_l4Filling.f k val) vf) : Ev (fun k => spec_GoodRelabel.j7 k a fr sep pat tg val md) (sJ7 a val md vf) := by
 unfold sJ7
 exact ev_step (fun _ => spec_GoodRelabel.j7.eq_2 ..) (ev_if (s_j8 _ _ _ _ _ _ _ _ hv _) (s_j8 _ _ _ _ _ _ _ _ hv _))
theorem s_j6 (hv : Ev (fun k => spec_l4Filling.f k val) vf) (ht : tg.size ≤ 9223372036854775807) (b : Bool) : Ev (fun k => spec_GoodRelabel.j6 k b a fr sep pat tg val md) (sJ6 a tg val md (nameL (Y tg)) vf b) := by
 unfold sJ6
 have h7 := s_j7 a fr sep pat tg val md vf hv
 exact ev_step (fun _ => spec_GoodRelabel.j6.eq_2 ..) (ev_if (ev_bind (name_spec _ ht) (ev_if h7 (ev_now _))) (ev_if h7 (ev_now _)))
theorem s_j5 (hv : Ev (fun k => spec_l4Filling.f k val) vf) (ht : tg.size ≤ 9223372036854775807) (x6 b : Bool) : Ev (fun k => spec_GoodRelabel.j5 k x6 b a fr sep pat tg val md) (sJ5 a tg val md (nameL (Y tg)) vf x6 b) := by
 unfold sJ5
 have h6 := s_j6 a fr sep pat tg val md vf hv ht
 exact ev_step (fun _ => spec_GoodRelabel.j5.eq_2 ..) (ev_if (ev_now _) (ev_if (h6 _) (h6 _)))
theorem s_j4 (hv : Ev (fun k => spec_l4Filling.f k val) vf) (ht : tg.size ≤ 9223372036854775807) (b : Bool) : Ev (fun k => spec_GoodRelabel.j4 k b a fr sep pat tg val md) (sJ4 a pat tg val md (nameL (Y tg)) vf b) := by
 unfold sJ4
 have h5 := s_j5 a fr sep pat tg val md vf hv ht
 exact ev_step (fun _ => spec_GoodRelabel.j4.eq_2 ..) (ev_if (h5 _ _) (h5 _ _))
theorem s_j3 (hv : Ev (fun k => spec_l4Filling.f k val) vf) (ht : tg.size ≤ 9223372036854775807) (b : Bool) : Ev (fun k => spec_GoodRelabel.j3 k b a fr sep pat tg val md) (sJ3 a pat tg val md (nameL (Y tg)) vf b) := by
 unfold sJ3
 have h4 := s_j4 a fr sep pat tg val md vf hv ht
 exact ev_step (fun _ => spec_GoodRelabel.j3.eq_2 ..) (ev_if (ev_now _) (ev_if (h4 _) (h4 _)))
theorem s_j2 (hv : Ev (fun k => spec_l4Filling.f k val) vf) (ht : tg.size ≤ 9223372036854775807) (b : Bool) : Ev (fun k => spec_GoodRelabel.j2 k b a fr sep pat tg val md) (sJ2 a fr sep pat tg val md (nameL (Y tg)) vf b) := by
 unfold sJ2
 have h3 := s_j3 a fr sep pat tg val md vf hv ht
 exact ev_step (fun _ => spec_GoodRelabel.j2.eq_2 ..) (ev_if (ev_if (h3 _) (h3 _)) (h3 _))
theorem s_l (hv : Ev (fun k => spec_l4Filling.f k val) vf) (ht : tg.size ≤ 9223372036854775807) (hf : fr.length ≤ 9223372036854775807 ∧ ∀ x ∈ fr, x.size ≤ 9223372036854775807) : Ev (fun k => spec_GoodRelabel.l0 k fr (fr.length : Int) 0 a fr sep pat tg val md) (sL a fr sep pat tg val md (anB fr) (nameL (Y tg)) vf) := by
 have h2 := s_j2 a fr sep pat tg val md vf hv ht
 refine up_ind fr.length (fun i => Ev (fun k => spec_GoodRelabel.l0 k fr (fr.length : Int) (i : Int) a fr sep pat tg val md) (sL a fr sep pat tg val md (anB (fr.drop i)) (nameL (Y tg)) vf)) ?_ ?_ 0 (by omega)
 ·rw [List.drop_length]
  unfold sL
  exact ev_step (fun _ => spec_GoodRelabel.l0.eq_2 ..) (ev_neg (by omega) (ev_if (h2 _) (ev_if (h2 _) (h2 _))))
 ·intro i h ih
  refine ev_step (fun _ => spec_GoodRelabel.l0.eq_2 ..) (ev_pos (by omega) (ev_pos (by omega) (ev_pos (by omega) ?_)))
  rw [rdOf_at h, List.drop_eq_getElem_cons h, w64n h hf.1]
  refine ev_bind (name_spec _ (hf.2 _ (List.getElem_mem h))) (ev_ite (fun h1 => ?_) (fun h1 => ?_))
  ·rw [show anB (fr[i] :: fr.drop (i + 1)) = anB (fr.drop (i + 1)) from by unfold anB; rw [List.any_cons, h1]; rfl]
   exact ih
  ·rw [show anB (fr[i] :: fr.drop (i + 1)) = true from by unfold anB; rw [List.any_cons, Bool.eq_false_iff.2 h1]; rfl]
   exact ev_now _
theorem rel_spec (hv : Ev (fun k => spec_l4Filling.f k val) vf) (ht : tg.size ≤ 9223372036854775807) (hp : pat.size ≤ 9223372036854775807) (hs : sep.size ≤ 9223372036854775807) (hf : fr.length ≤ 9223372036854775807 ∧ ∀ x ∈ fr, x.size ≤ 9223372036854775807) :
  Ev (fun k => spec_GoodRelabel.f k a fr sep pat tg val md) (sI a fr sep pat tg val md (anB fr) (prL 10 (Y sep)) (patB pat) (nameL (Y tg)) vf) := by
 have h0 : ∀ b, Ev (fun k => spec_GoodRelabel.j0 k b a fr sep pat tg val md) (sJ0 a fr sep pat tg val md (anB fr) (nameL (Y tg)) vf b) := by
  intro b
  unfold sJ0
  exact ev_step (fun _ => spec_GoodRelabel.j0.eq_2 ..) (ev_if (ev_now _) (s_l a fr sep pat tg val md vf hv ht hf))
 unfold sI spec_GoodRelabel.f
 refine ev_if (h0 _) (ev_if (h0 _) (ev_if (h0 _) ?_))
 refine ev_ite (fun h => ?_) (fun h => ?_)
 ·rw [if_neg (by unfold prL; rw [Y_len, decide_eq_false (by omega), Bool.false_and]; decide)]
  exact h0 _
 ·rw [show prL 10 (Y sep) = (Y sep).all prC from by unfold prL; rw [Y_len, decide_eq_true (by omega), Bool.true_and]]
  exact ev_bind (printed_spec sep hs) (ev_if (ev_bind (pat_spec pat hp) (h0 _)) (h0 _))
theorem rel_two (hl : val.size ≤ 4611686018427387904) (ht : tg.size ≤ 9223372036854775807) (hp : pat.size ≤ 9223372036854775807) (hs : sep.size ≤ 9223372036854775807) (hf : fr.length ≤ 9223372036854775807 ∧ ∀ x ∈ fr, x.size ≤ 9223372036854775807) :
  ∃ v, Ev (fun k => impl_GoodRelabel.f k a fr sep pat tg val md) v ∧ Ev (fun k => spec_GoodRelabel.f k a fr sep pat tg val md) v := by
 obtain ⟨vf, h1, h2, h3⟩ := fill_two val hl
 refine ⟨_, rel_impl a fr sep pat tg val md vf h1 ht hp hs hf, ?_⟩
 rw [rel_same a fr sep pat tg val md (anB fr) (prL 10 (Y sep)) (patB pat) (nameL (Y tg)) vf (fun h => by rw [show Y tg = [] from Y_eq.symm.trans h]; rfl) h3]
 exact rel_spec a fr sep pat tg val md vf h2 ht hp hs hf
end

end Go.Proofs.Ytbejcmfpmoaddaa.U
namespace Go.Proofs.Ytbejcmfpmoaddaa.U
open Go.RowKit Go.Proofs.Ytbejcmfpmoaddaa.Pr Go.Proofs.YtbejcmfpmoaddaaW.PrintWords Go.Proofs.YtbejcmfpmoaddaaW.PrintLast Go.Proofs.YtbejcmfpmoaddaaW.PrintMore
set_option linter.unusedVariables false
set_option linter.unusedSimpArgs false
theorem any_all_Relabel {α : Type} (P : Nat → α → Option Bool) (p : α → Bool) : ∀ l : List α, (∀ x ∈ l, Ev (fun k => P k x) (p x)) → ∃ K, ∀ k, K ≤ k → ∀ x ∈ l, P k x = some (p x) := by
 intro l
 induction l with
 | nil => intro _; exact ⟨0, fun _ _ _ h => by cases h⟩
 | cons y l ih =>
  intro h
  obtain ⟨K, h1⟩ := ih (fun x hx => h x (List.mem_cons_of_mem _ hx))
  obtain ⟨K', h2⟩ := h y (List.mem_cons_self ..)
  refine ⟨max K K', fun k hk x hx => ?_⟩
  rcases List.mem_cons.1 hx with rfl | hx
  ·exact h2 k (by omega)
  ·exact h1 k (by omega) x hx
theorem any_at_Relabel (P : S80 → Option Bool) (p : S80 → Bool) (l : List S80) (hl : l.length ≤ 9223372036854775807) (h : ∀ x ∈ l, P x = some (p x)) : ∀ (d k i : Nat), i + d = l.length → d < k → ∃ r, impl_Relabel_67.l0 P l k (i : Int) = some r ∧ decide (0 ≤ r) = (l.drop i).any p := by
 have hrd : ∀ (i : Nat) (h : i < l.length), rd_T80 l (i : Int) = l[i] := fun i h => getD_lt h
 intro d
 induction d with
 | zero =>
  intro k i h1 h2
  obtain ⟨k, rfl⟩ : ∃ m, k = m + 1 := ⟨k - 1, by omega⟩
  simp only [impl_Relabel_67.l0]
  rw [if_neg (by omega), List.drop_eq_nil_of_le (by omega), List.any_nil]
  exact ⟨-1, rfl, rfl⟩
 | succ d ih =>
  intro k i h1 h2
  obtain ⟨k, rfl⟩ : ∃ m, k = m + 1 := ⟨k - 1, by omega⟩
  have hi : i < l.length := by omega
  have hp : P l[i] = some (p l[i]) := h l[i] (List.getElem_mem hi)
  simp only [impl_Relabel_67.l0]
  rw [if_pos (by omega), if_pos (by omega), hrd i hi, hp, Option.bind_some, List.drop_eq_getElem_cons hi, List.any_cons, w64n hi (by omega)]
  by_cases hq : p l[i] = true
  ·rw [if_pos hq, hq, Bool.true_or]
   exact ⟨i, rfl, decide_eq_true (by omega)⟩
  ·rw [if_neg hq, Bool.eq_false_iff.2 hq, Bool.false_or]
   exact ih k (i + 1) (by omega) (by omega)
theorem any_Relabel (P : Nat → S80 → Option Bool) (p : S80 → Bool) (l : List S80) (hl : l.length ≤ 9223372036854775807) (h : ∀ x ∈ l, Ev (fun k => P k x) (p x)) : Ev (fun k => impl_Relabel_51.f k (P k) l) (l.any p) := by
 obtain ⟨K, hK⟩ := any_all_Relabel P p l h
 refine ⟨max K (l.length + 1), fun k hk => ?_⟩
 obtain ⟨r, h1, h2⟩ := any_at_Relabel (P k) p l hl (hK k (by omega)) l.length k 0 (by omega) (by omega)
 have h3 : impl_Relabel_67.f k (P k) l = some r := h1
 show ((impl_Relabel_67.f k (P k) l).bind fun j => some (decide (0 ≤ j))) = some (l.any p)
 rw [h3, Option.bind_some, h2]
 rfl
end Go.Proofs.Ytbejcmfpmoaddaa.U
namespace Go.Proofs.Ytbejcmfpmoaddaa.U
open Go.RowKit Go.Proofs.Ytbejcmfpmoaddaa.Pr Go.Proofs.YtbejcmfpmoaddaaW.PrintWords Go.Proofs.YtbejcmfpmoaddaaW.PrintLast Go.Proofs.YtbejcmfpmoaddaaW.PrintMore
set_option linter.unusedVariables false
set_option linter.unusedSimpArgs false
def sm71 (x : S71) : Prop := x.f0.size ≤ 1048576 ∧ x.f1.size ≤ 1048576
def cv71 (x : S71) : S78 := ⟨x.f0, x.f1⟩
theorem toLabel (x : S71) (hx : sm71 x) : Ev (fun _ => laws_toLabel.f x.f0 x.f1) (x.f0, x.f1) := by
 obtain ⟨h0, h1⟩ := hx
 unfold laws_toLabel.f
 exact ev_now _
theorem eqLabel (x : S78) : Ev (fun _ => laws_eqLabel.f x.f0 x.f1 x.f0 x.f1) true := ev_eq (by simp [laws_eqLabel.f])
def sw71 (x : S71) : Prop := (x.f0.size ≤ maxLen) ∧ (x.f1.size ≤ maxLen)
theorem szLabel (x : S71) (c : Int) (h0 : 0 ≤ c) (h1 : c ≤ 1048576) (hw : sw71 x) : ∃ r, Ev (fun _ => laws_szLabel.f x.f0 x.f1 c) r ∧ r ≤ c ∧ (0 ≤ r → sm71 x) := by
 obtain ⟨w0, w1⟩ := hw
 unfold laws_szLabel.f
 simp only [maxLen] at w0
 rw [w64 (x := c - (x.f0.size : Int)) (by omega) (by omega)]
 by_cases n0 : c - (x.f0.size : Int) < 0
 ·exact ⟨-1, ev_pos n0 (ev_now _), by omega, fun h => absurd h (by decide)⟩
 ·skip
  simp only [maxLen] at w1
  rw [w64 (x := (c - (x.f0.size : Int)) - (x.f1.size : Int)) (by omega) (by omega)]
  by_cases n1 : (c - (x.f0.size : Int)) - (x.f1.size : Int) < 0
  ·exact ⟨-1, ev_neg n0 (ev_pos n1 (ev_now _)), by omega, fun h => absurd h (by decide)⟩
  ·skip
   exact ⟨_, ev_neg n0 (ev_neg n1 (ev_now _)), by omega, fun _ => ⟨by omega, by omega⟩⟩
end Go.Proofs.Ytbejcmfpmoaddaa.U
namespace Go.Proofs.Ytbejcmfpmoaddaa.U
open Go.RowKit Go.Proofs.Ytbejcmfpmoaddaa.Pr Go.Proofs.YtbejcmfpmoaddaaW.PrintWords Go.Proofs.YtbejcmfpmoaddaaW.PrintLast Go.Proofs.YtbejcmfpmoaddaaW.PrintMore
set_option linter.unusedVariables false
set_option linter.unusedSimpArgs false
theorem toLabelS (l : List (S71)) (hl : (l.length ≤ 1048576 ∧ ∀ y ∈ l, sm71 y)) : Ev (fun k => laws_toLabelS.f k l) (l.map cv71) := by
 obtain ⟨hl, hs⟩ := hl
 unfold laws_toLabelS.f
 repeat (first | (with_reducible refine ev_pos (by first | omega | rfl | decide) ?_) | (with_reducible refine ev_neg (by first | omega | decide) ?_))
 have key := ev_copy (F := fun k y i => laws_toLabelS.l0 k l y i) cv71 l (List.replicate ((l.length : Int) : Int).toNat z78) (by simp) ?step ?done
 case step =>
  intro i h y r hy hr
  refine ev_step (fun _ => laws_toLabelS.l0.eq_2 ..) ?_
  repeat (first | (with_reducible refine ev_pos (by first | omega | rfl | decide) ?_) | (with_reducible refine ev_neg (by first | omega | decide) ?_))
  rw [(show rd_T71 l (i : Int) = l[i] from getD_lt h)]
  refine ev_bind (toLabel l[i] (hs _ (List.getElem_mem h))) ?_
  repeat (first | (with_reducible refine ev_pos (by first | omega | rfl | decide) ?_) | (with_reducible refine ev_neg (by first | omega | decide) ?_))
  rw [w64n h (by omega), Int.toNat_natCast]
  exact hr
 case done =>
  intro y hy
  refine ev_step (fun _ => laws_toLabelS.l0.eq_2 ..) ?_
  repeat (first | (with_reducible refine ev_pos (by first | omega | rfl | decide) ?_) | (with_reducible refine ev_neg (by first | omega | decide) ?_))
  exact ev_now _
 exact key
theorem eqLabelS (l : List (S78)) (hl : l.length ≤ 1048576) : Ev (fun k => laws_eqLabelS.f k l l) true := by
 unfold laws_eqLabelS.f
 refine ev_pos rfl ?_
 refine up_ind l.length (fun i => Ev (fun k => laws_eqLabelS.l0 k l l (i : Int)) true) ?_ ?_ 0 (by omega)
 ·refine ev_step (fun _ => laws_eqLabelS.l0.eq_2 ..) ?_
  refine ev_neg (by omega) ?_
  exact ev_now _
 ·intro i h ih
  refine ev_step (fun _ => laws_eqLabelS.l0.eq_2 ..) ?_
  repeat (first | (with_reducible refine ev_pos (by first | omega | rfl | decide) ?_) | (with_reducible refine ev_neg (by first | omega | decide) ?_))
  refine ev_bind (eqLabel _) ?_
  refine ev_pos rfl ?_
  rw [w64n h (by omega)]
  exact ih
theorem szLabelS (l : List (S71)) (c : Int) (h0 : 0 ≤ c) (h1 : c ≤ 1048576) (hl : l.length ≤ maxLen) (hw : ∀ x ∈ l, sw71 x) : ∃ r, Ev (fun k => laws_szLabelS.f k l c) r ∧ r ≤ c ∧ (0 ≤ r → (l.length ≤ 1048576 ∧ ∀ y ∈ l, sm71 y)) := by
 simp only [maxLen] at hl
 unfold laws_szLabelS.f
 rw [w64 (x := c - (l.length : Int)) (by omega) (by omega)]
 by_cases hn : c - (l.length : Int) < 0
 ·exact ⟨-1, ev_pos hn (ev_now _), by omega, fun h => absurd h (by decide)⟩
 ·have key := up_ind l.length (fun i => ∀ c : Int, 0 ≤ c → c ≤ 1048576 → ∃ r, Ev (fun k => laws_szLabelS.l0 k l c (i : Int)) r ∧ r ≤ c ∧ (0 ≤ r → ∀ j (h : j < l.length), i ≤ j → sm71 l[j])) ?d ?s 0 (by omega) (c - (l.length : Int)) (by omega) (by omega)
  case d => exact fun c h0 h1 => ⟨c, ev_step (fun _ => laws_szLabelS.l0.eq_2 ..) (ev_neg (by omega) (ev_now _)), Int.le_refl _, fun _ j h hj => by omega⟩
  case s =>
   intro i h ih c h0 h1
   obtain ⟨r1, e1, hr1, hs1⟩ := szLabel l[i] c h0 h1 (hw _ (List.getElem_mem h))
   by_cases hr : r1 < 0
   ·refine ⟨-1, ev_step (fun _ => laws_szLabelS.l0.eq_2 ..) ?_, by omega, fun h => absurd h (by decide)⟩
    repeat (first | (with_reducible refine ev_pos (by first | omega | rfl | decide) ?_) | (with_reducible refine ev_neg (by first | omega | decide) ?_))
    rw [(show rd_T71 l (i : Int) = l[i] from getD_lt h)]
    exact ev_bind e1 (ev_pos hr (ev_now _))
   ·obtain ⟨r, e, hrc, hs⟩ := ih (r1) (by omega) (by omega)
    refine ⟨r, ev_step (fun _ => laws_szLabelS.l0.eq_2 ..) ?_, by omega, fun h2 j hj hij => ?_⟩
    ·repeat (first | (with_reducible refine ev_pos (by first | omega | rfl | decide) ?_) | (with_reducible refine ev_neg (by first | omega | decide) ?_))
     rw [(show rd_T71 l (i : Int) = l[i] from getD_lt h)]
     refine ev_bind e1 (ev_neg hr ?_)
     rw [w64n h (by omega)]
     exact e
    ·by_cases ej : j = i
     ·subst ej
      exact hs1 (by omega)
     ·exact hs h2 j hj (by omega)
  obtain ⟨r, e, hrc, hs⟩ := key
  refine ⟨r, ev_neg hn e, by omega, fun h => ⟨by omega, fun y hy => ?_⟩⟩
  obtain ⟨j, hj, rfl⟩ := List.getElem_of_mem hy
  exact hs h j hj (by omega)
end Go.Proofs.Ytbejcmfpmoaddaa.U
namespace Go.Proofs.Ytbejcmfpmoaddaa.U
open Go.RowKit Go.Proofs.Ytbejcmfpmoaddaa.Pr Go.Proofs.YtbejcmfpmoaddaaW.PrintWords Go.Proofs.YtbejcmfpmoaddaaW.PrintLast Go.Proofs.YtbejcmfpmoaddaaW.PrintMore
set_option linter.unusedVariables false
set_option linter.unusedSimpArgs false
def sm74 (x : S74) : Prop := (x.f1.length ≤ 1048576 ∧ ∀ y ∈ x.f1, y.size ≤ 1048576) ∧ x.f2.size ≤ 1048576 ∧ x.f3.size ≤ 1048576 ∧ x.f4.size ≤ 1048576 ∧ x.f5.size ≤ 1048576
def cv74 (x : S74) : S80 := ⟨x.f0, x.f1, x.f2, x.f3, x.f4, x.f5, x.f6⟩
theorem toRelabel (x : S74) (hx : sm74 x) : Ev (fun k => laws_toRelabel.f k x.f0 x.f1 x.f2 x.f3 x.f4 x.f5 x.f6) (x.f0, x.f1, x.f2, x.f3, x.f4, x.f5, x.f6) := by
 obtain ⟨h1, h2, h3, h4, h5⟩ := hx
 unfold laws_toRelabel.f
 refine ev_bind (toStringS _ h1) ?_
 exact ev_now _
def se80 (x : S80) : Prop := (x.f1.length ≤ 1048576)
theorem eqRelabel (x : S80) (hx : se80 x) : Ev (fun k => laws_eqRelabel.f k x.f0 x.f1 x.f2 x.f3 x.f4 x.f5 x.f6 x.f0 x.f1 x.f2 x.f3 x.f4 x.f5 x.f6) true := by
 have h1 := hx
 unfold laws_eqRelabel.f
 refine ev_pos rfl ?_
 refine ev_bind (eqStringS _ h1) ?_
 refine ev_pos rfl ?_
 refine ev_pos rfl ?_
 refine ev_pos rfl ?_
 refine ev_pos rfl ?_
 refine ev_pos rfl ?_
 refine ev_pos rfl ?_
 exact ev_now _
def sw74 (x : S74) : Prop := (x.f1.length ≤ maxLen ∧ ∀ y ∈ x.f1, y.size ≤ maxLen) ∧ (x.f2.size ≤ maxLen) ∧ (x.f3.size ≤ maxLen) ∧ (x.f4.size ≤ maxLen) ∧ (x.f5.size ≤ maxLen)
theorem szRelabel (x : S74) (c : Int) (h0 : 0 ≤ c) (h1 : c ≤ 1048576) (hw : sw74 x) : ∃ r, Ev (fun k => laws_szRelabel.f k x.f0 x.f1 x.f2 x.f3 x.f4 x.f5 x.f6 c) r ∧ r ≤ c ∧ (0 ≤ r → sm74 x) := by
 obtain ⟨w1, w2, w3, w4, w5⟩ := hw
 unfold laws_szRelabel.f
 obtain ⟨r1, e1, q1, s1⟩ := szStringS x.f1 c (by omega) (by omega) w1.1 w1.2
 by_cases n1 : r1 < 0
 ·exact ⟨-1, ev_bind e1 (ev_pos n1 (ev_now _)), by omega, fun h => absurd h (by decide)⟩
 ·skip
  simp only [maxLen] at w2
  have x2 : wrap64 (r1 - (x.f2.size : Int)) = r1 - (x.f2.size : Int) := w64 (by omega) (by omega)
  by_cases n2 : r1 - (x.f2.size : Int) < 0
  ·exact ⟨-1, ev_bind e1 (ev_neg n1 (ev_pos (by rw [x2]; exact n2) (ev_now _))), by omega, fun h => absurd h (by decide)⟩
  ·skip
   simp only [maxLen] at w3
   have x3 : wrap64 ((r1 - (x.f2.size : Int)) - (x.f3.size : Int)) = (r1 - (x.f2.size : Int)) - (x.f3.size : Int) := w64 (by omega) (by omega)
   by_cases n3 : (r1 - (x.f2.size : Int)) - (x.f3.size : Int) < 0
   ·exact ⟨-1, ev_bind e1 (ev_neg n1 (ev_neg (by rw [x2]; exact n2) (ev_pos (by rw [x2, x3]; exact n3) (ev_now _)))), by omega, fun h => absurd h (by decide)⟩
   ·skip
    simp only [maxLen] at w4
    have x4 : wrap64 (((r1 - (x.f2.size : Int)) - (x.f3.size : Int)) - (x.f4.size : Int)) = ((r1 - (x.f2.size : Int)) - (x.f3.size : Int)) - (x.f4.size : Int) := w64 (by omega) (by omega)
    by_cases n4 : ((r1 - (x.f2.size : Int)) - (x.f3.size : Int)) - (x.f4.size : Int) < 0
    ·exact ⟨-1, ev_bind e1 (ev_neg n1 (ev_neg (by rw [x2]; exact n2) (ev_neg (by rw [x2, x3]; exact n3) (ev_pos (by rw [x2, x3, x4]; exact n4) (ev_now _))))), by omega, fun h => absurd h (by decide)⟩
    ·skip
     simp only [maxLen] at w5
     have x5 : wrap64 ((((r1 - (x.f2.size : Int)) - (x.f3.size : Int)) - (x.f4.size : Int)) - (x.f5.size : Int)) = (((r1 - (x.f2.size : Int)) - (x.f3.size : Int)) - (x.f4.size : Int)) - (x.f5.size : Int) := w64 (by omega) (by omega)
     by_cases n5 : (((r1 - (x.f2.size : Int)) - (x.f3.size : Int)) - (x.f4.size : Int)) - (x.f5.size : Int) < 0
     ·exact ⟨-1, ev_bind e1 (ev_neg n1 (ev_neg (by rw [x2]; exact n2) (ev_neg (by rw [x2, x3]; exact n3) (ev_neg (by rw [x2, x3, x4]; exact n4) (ev_pos (by rw [x2, x3, x4, x5]; exact n5) (ev_now _)))))), by omega, fun h => absurd h (by decide)⟩
     ·skip
      exact ⟨((((r1 - (x.f2.size : Int)) - (x.f3.size : Int)) - (x.f4.size : Int)) - (x.f5.size : Int)), ev_bind e1 (ev_neg n1 (ev_neg (by rw [x2]; exact n2) (ev_neg (by rw [x2, x3]; exact n3) (ev_neg (by rw [x2, x3, x4]; exact n4) (ev_neg (by rw [x2, x3, x4, x5]; exact n5) ((by rw [x2, x3, x4, x5]; exact ev_now _))))))), by omega, fun _ => ⟨s1 (by omega), by omega, by omega, by omega, by omega⟩⟩
end Go.Proofs.Ytbejcmfpmoaddaa.U
namespace Go.Proofs.Ytbejcmfpmoaddaa.U
open Go.RowKit Go.Proofs.Ytbejcmfpmoaddaa.Pr Go.Proofs.YtbejcmfpmoaddaaW.PrintWords Go.Proofs.YtbejcmfpmoaddaaW.PrintLast Go.Proofs.YtbejcmfpmoaddaaW.PrintMore
set_option linter.unusedVariables false
set_option linter.unusedSimpArgs false
theorem toRelabelS (l : List (S74)) (hl : (l.length ≤ 1048576 ∧ ∀ y ∈ l, sm74 y)) : Ev (fun k => laws_toRelabelS.f k l) (l.map cv74) := by
 obtain ⟨hl, hs⟩ := hl
 unfold laws_toRelabelS.f
 repeat (first | (with_reducible refine ev_pos (by first | omega | rfl | decide) ?_) | (with_reducible refine ev_neg (by first | omega | decide) ?_))
 have key := ev_copy (F := fun k y i => laws_toRelabelS.l0 k l y i) cv74 l (List.replicate ((l.length : Int) : Int).toNat z80) (by simp) ?step ?done
 case step =>
  intro i h y r hy hr
  refine ev_step (fun _ => laws_toRelabelS.l0.eq_2 ..) ?_
  repeat (first | (with_reducible refine ev_pos (by first | omega | rfl | decide) ?_) | (with_reducible refine ev_neg (by first | omega | decide) ?_))
  rw [(show rd_T74 l (i : Int) = l[i] from getD_lt h)]
  refine ev_bind (toRelabel l[i] (hs _ (List.getElem_mem h))) ?_
  repeat (first | (with_reducible refine ev_pos (by first | omega | rfl | decide) ?_) | (with_reducible refine ev_neg (by first | omega | decide) ?_))
  rw [w64n h (by omega), Int.toNat_natCast]
  exact hr
 case done =>
  intro y hy
  refine ev_step (fun _ => laws_toRelabelS.l0.eq_2 ..) ?_
  repeat (first | (with_reducible refine ev_pos (by first | omega | rfl | decide) ?_) | (with_reducible refine ev_neg (by first | omega | decide) ?_))
  exact ev_now _
 exact key
theorem eqRelabelS (l : List (S80)) (hl : l.length ≤ 1048576) (hs : ∀ x ∈ l, se80 x) : Ev (fun k => laws_eqRelabelS.f k l l) true := by
 unfold laws_eqRelabelS.f
 refine ev_pos rfl ?_
 refine up_ind l.length (fun i => Ev (fun k => laws_eqRelabelS.l0 k l l (i : Int)) true) ?_ ?_ 0 (by omega)
 ·refine ev_step (fun _ => laws_eqRelabelS.l0.eq_2 ..) ?_
  refine ev_neg (by omega) ?_
  exact ev_now _
 ·intro i h ih
  refine ev_step (fun _ => laws_eqRelabelS.l0.eq_2 ..) ?_
  repeat (first | (with_reducible refine ev_pos (by first | omega | rfl | decide) ?_) | (with_reducible refine ev_neg (by first | omega | decide) ?_))
  rw [(show rd_T80 l (i : Int) = l[i] from getD_lt h)]
  refine ev_bind (eqRelabel l[i] (hs _ (List.getElem_mem h))) ?_
  refine ev_pos rfl ?_
  rw [w64n h (by omega)]
  exact ih
theorem szRelabelS (l : List (S74)) (c : Int) (h0 : 0 ≤ c) (h1 : c ≤ 1048576) (hl : l.length ≤ maxLen) (hw : ∀ x ∈ l, sw74 x) : ∃ r, Ev (fun k => laws_szRelabelS.f k l c) r ∧ r ≤ c ∧ (0 ≤ r → (l.length ≤ 1048576 ∧ ∀ y ∈ l, sm74 y)) := by
 simp only [maxLen] at hl
 unfold laws_szRelabelS.f
 rw [w64 (x := c - (l.length : Int)) (by omega) (by omega)]
 by_cases hn : c - (l.length : Int) < 0
 ·exact ⟨-1, ev_pos hn (ev_now _), by omega, fun h => absurd h (by decide)⟩
 ·have key := up_ind l.length (fun i => ∀ c : Int, 0 ≤ c → c ≤ 1048576 → ∃ r, Ev (fun k => laws_szRelabelS.l0 k l c (i : Int)) r ∧ r ≤ c ∧ (0 ≤ r → ∀ j (h : j < l.length), i ≤ j → sm74 l[j])) ?d ?s 0 (by omega) (c - (l.length : Int)) (by omega) (by omega)
  case d => exact fun c h0 h1 => ⟨c, ev_step (fun _ => laws_szRelabelS.l0.eq_2 ..) (ev_neg (by omega) (ev_now _)), Int.le_refl _, fun _ j h hj => by omega⟩
  case s =>
   intro i h ih c h0 h1
   obtain ⟨r1, e1, hr1, hs1⟩ := szRelabel l[i] c h0 h1 (hw _ (List.getElem_mem h))
   by_cases hr : r1 < 0
   ·refine ⟨-1, ev_step (fun _ => laws_szRelabelS.l0.eq_2 ..) ?_, by omega, fun h => absurd h (by decide)⟩
    repeat (first | (with_reducible refine ev_pos (by first | omega | rfl | decide) ?_) | (with_reducible refine ev_neg (by first | omega | decide) ?_))
    rw [(show rd_T74 l (i : Int) = l[i] from getD_lt h)]
    exact ev_bind e1 (ev_pos hr (ev_now _))
   ·obtain ⟨r, e, hrc, hs⟩ := ih (r1) (by omega) (by omega)
    refine ⟨r, ev_step (fun _ => laws_szRelabelS.l0.eq_2 ..) ?_, by omega, fun h2 j hj hij => ?_⟩
    ·repeat (first | (with_reducible refine ev_pos (by first | omega | rfl | decide) ?_) | (with_reducible refine ev_neg (by first | omega | decide) ?_))
     rw [(show rd_T74 l (i : Int) = l[i] from getD_lt h)]
     refine ev_bind e1 (ev_neg hr ?_)
     rw [w64n h (by omega)]
     exact e
    ·by_cases ej : j = i
     ·subst ej
      exact hs1 (by omega)
     ·exact hs h2 j hj (by omega)
  obtain ⟨r, e, hrc, hs⟩ := key
  refine ⟨r, ev_neg hn e, by omega, fun h => ⟨by omega, fun y hy => ?_⟩⟩
  obtain ⟨j, hj, rfl⟩ := List.getElem_of_mem hy
  exact hs h j hj (by omega)
end Go.Proofs.Ytbejcmfpmoaddaa.U
namespace Go.Proofs.Ytbejcmfpmoaddaa.U
open Go.RowKit Go.Proofs.Ytbejcmfpmoaddaa.Pr Go.Proofs.YtbejcmfpmoaddaaW.PrintWords Go.Proofs.YtbejcmfpmoaddaaW.PrintLast Go.Proofs.YtbejcmfpmoaddaaW.PrintMore
set_option linter.unusedVariables false
set_option linter.unusedSimpArgs false
theorem fitL_cv (l : List S71) (h : l.length ≤ 1048576 ∧ ∀ x ∈ l, sm71 x) : fitL (l.map cv71) := by
 refine ⟨by rw [List.length_map]; omega, fun x hx => ?_⟩
 obtain ⟨y, hy, rfl⟩ := List.mem_map.1 hx
 obtain ⟨h1, h2⟩ := h.2 y hy
 exact ⟨by show y.f0.size ≤ _; omega, by show y.f1.size ≤ _; omega⟩
end Go.Proofs.Ytbejcmfpmoaddaa.U
namespace Go.Proofs.Ytbejcmfpmoaddaa.U
open Go.RowKit Go.Proofs.Ytbejcmfpmoaddaa.Pr Go.Proofs.YtbejcmfpmoaddaaW.PrintWords Go.Proofs.YtbejcmfpmoaddaaW.PrintLast Go.Proofs.YtbejcmfpmoaddaaW.PrintMore
set_option linter.unusedVariables false
set_option linter.unusedSimpArgs false
theorem ev_and {c : Prop} [Decidable c] {a : Nat → Option Bool} {x : Bool} (h : Ev a x) : Ev (fun k => if c then a k else some false) (decide c && x) := by
 by_cases hc : c
 ·rw [decide_eq_true hc, Bool.true_and]; exact ev_pos hc h
 ·rw [decide_eq_false hc, Bool.false_and]; exact ev_neg hc (ev_now _)
theorem ev_andb {b : Bool} {a : Nat → Option Bool} {x : Bool} (h : Ev a x) : Ev (fun k => if b = true then a k else some false) (b && x) := by
 cases b with
 | true => exact ev_pos rfl h
 | false => exact ev_neg (by decide) (ev_now _)
def relEv (x : S80) (b : Bool) : Prop := Ev (fun k => impl_GoodRelabel.f k x.f0 x.f1 x.f2 x.f3 x.f4 x.f5 x.f6) b
/-- What both programs' GoodRelabel answer. -/
noncomputable def relB (x : S80) : Bool := @decide (relEv x true) (Classical.propDecidable _)
def fitR (x : S80) : Prop := (x.f1.length ≤ 9223372036854775807 ∧ ∀ y ∈ x.f1, y.size ≤ 9223372036854775807) ∧ x.f2.size ≤ 9223372036854775807 ∧ x.f3.size ≤ 9223372036854775807 ∧ x.f4.size ≤ 9223372036854775807 ∧ x.f5.size ≤ 4611686018427387904
theorem relB_two (x : S80) (h : fitR x) : relEv x (relB x) ∧ Ev (fun k => spec_GoodRelabel.f k x.f0 x.f1 x.f2 x.f3 x.f4 x.f5 x.f6) (relB x) := by
 obtain ⟨h1, h2, h3, h4, h5⟩ := h
 obtain ⟨v, e1, e2⟩ := rel_two x.f0 x.f1 x.f2 x.f3 x.f4 x.f5 x.f6 h5 h4 h3 h2 h1
 have : relB x = v := by
  unfold relB
  cases v with
  | true => exact @decide_eq_true _ (Classical.propDecidable _) e1
  | false => exact @decide_eq_false _ (Classical.propDecidable _) (fun h => Bool.noConfusion (ev_one h e1))
 rw [this]
 exact ⟨e1, e2⟩
def fitRs (l : List S80) : Prop := l.length ≤ 9223372036854775807 ∧ ∀ x ∈ l, fitR x
noncomputable def rulesB (l : List S80) : Bool := decide (l.length ≤ 30) && l.all relB
theorem rules_spec (l : List S80) (hf : fitRs l) : Ev (fun k => spec_l4Rules.f k l) (rulesB l) := by
 have hrd : ∀ (i : Nat) (h : i < l.length), rd_T80 l (i : Int) = l[i] := fun i h => getD_lt h
 unfold spec_l4Rules.f rulesB
 refine ev_ite (fun h => ?_) (fun h => ?_)
 ·rw [decide_eq_false (by omega), Bool.false_and]; exact ev_now _
 ·rw [decide_eq_true (by omega), Bool.true_and]
  refine up_ind l.length (fun i => Ev (fun k => spec_l4Rules.l0 k l (l.length : Int) (i : Int)) ((l.drop i).all relB)) ?_ ?_ 0 (by omega)
  ·rw [List.drop_length]
   exact ev_step (fun _ => spec_l4Rules.l0.eq_2 ..) (ev_neg (by omega) (ev_now _))
  ·intro i h ih
   refine ev_step (fun _ => spec_l4Rules.l0.eq_2 ..) (ev_pos (by omega) (ev_pos (by omega) (ev_pos (by omega) ?_)))
   rw [hrd i h, List.drop_eq_getElem_cons h, List.all_cons, w64n h (by omega)]
   refine ev_bind (relB_two l[i] (hf.2 _ (List.getElem_mem h))).2 (ev_ite (fun h1 => ?_) (fun h1 => ?_))
   ·rw [h1, Bool.true_and]; exact ih
   ·rw [Bool.eq_false_iff.2 h1, Bool.false_and]; exact ev_now _
theorem any_rules (l : List S80) (hf : fitRs l) : Ev (fun k => any_51_52.f k l) (l.any fun x => !(relB x)) :=
 any_Relabel (fun k x => impl_GoodTarget_1.f k x.f0 x.f1 x.f2 x.f3 x.f4 x.f5 x.f6) (fun x => !(relB x)) l hf.1 (fun x hx => ev_bind (relB_two x (hf.2 x hx)).1 (ev_now _))
def nameT : ByteArray := ⟨#[95, 110, 97, 109, 101]⟩
noncomputable def tgtB (l : List S78) (ev li : Int) (rs : List S80) : Bool := goodL l && (decide ((l.length : Int) < 20) && (decide ((ofL nameT l).toList = []) && (decide (ev ≥ 1) && (decide (ev ≤ 3600) && (decide (li ≥ 0) && (decide (li ≤ 1000) && rulesB rs))))))
theorem target_impl (l : List S78) (ev li : Int) (ho : Bool) (rs : List S80) (hl : fitL l) (hr : fitRs rs) : Ev (fun k => impl_GoodTarget.f k l ev li ho rs) (tgtB l ev li rs) := by
 unfold impl_GoodTarget.f tgtB
 refine ev_bind (goodLabels_impl _ hl) (ev_andb (ev_and (ev_bind (of_impl _ hl.1 _) (ev_and (ev_and (ev_and (ev_and (ev_and ?_))))))))
 unfold rulesB
 refine ev_ite (fun h => ?_) (fun h => ?_)
 ·rw [decide_eq_true (by omega), Bool.true_and, show rs.all relB = !(rs.any fun x => !(relB x)) from by rw [List.not_any_eq_all_not]; simp]
  exact ev_bind (any_rules rs hr) (ev_now _)
 ·rw [decide_eq_false (by omega), Bool.false_and]; exact ev_now _
theorem target_spec (l : List S78) (ev li : Int) (ho : Bool) (rs : List S80) (hl : fitL l) (hr : fitRs rs) : Ev (fun k => spec_GoodTarget.f k l ev li ho rs) (tgtB l ev li rs) := by
 have hb : Ev (fun k => spec_l5Bare.f k l) (goodL l && (decide ((l.length : Int) < 20) && decide ((ofL nameT l).toList = []))) := by
  unfold spec_l5Bare.f
  refine ev_bind (goodLabels_spec _ hl) (ev_andb (ev_and (ev_bind (of_spec _ hl.1 _) ?_)))
  show Ev (fun _ => some ((ofL nameT l).toList == ([] : List UInt8))) (decide ((ofL nameT l).toList = []))
  rw [show ((ofL nameT l).toList == ([] : List UInt8)) = decide ((ofL nameT l).toList = []) from by by_cases h : (ofL nameT l).toList = [] <;> simp [h]]
  exact ev_now _
 unfold spec_GoodTarget.f tgtB
 rw [show ∀ a b c d : Bool, (a && (b && (c && d))) = ((a && (b && c)) && d) from by decide]
 exact ev_bind hb (ev_andb (ev_and (ev_and (ev_and (ev_and (ev_bind (rules_spec rs hr) (ev_now _)))))))
theorem fitRs_cv (l : List S74) (h : l.length ≤ 1048576 ∧ ∀ x ∈ l, sm74 x) : fitRs (l.map cv74) := by
 refine ⟨by rw [List.length_map]; omega, fun x hx => ?_⟩
 obtain ⟨y, hy, rfl⟩ := List.mem_map.1 hx
 obtain ⟨⟨h0, h1⟩, h2, h3, h4, h5⟩ := h.2 y hy
 exact ⟨⟨by show y.f1.length ≤ _; omega, fun z hz => by have := h1 z hz; omega⟩, by show y.f2.size ≤ _; omega, by show y.f3.size ≤ _; omega, by show y.f4.size ≤ _; omega, by show y.f5.size ≤ _; omega⟩
theorem seR_cv (l : List S74) (h : l.length ≤ 1048576 ∧ ∀ x ∈ l, sm74 x) : ∀ x ∈ l.map cv74, se80 x := by
 intro x hx
 obtain ⟨y, hy, rfl⟩ := List.mem_map.1 hx
 exact (h.2 y hy).1.1
section
variable (l : List S71) (ev li : Int) (ho : Bool) (rs : List S74)
theorem sz_target (hm : l.length ≤ maxLen) (hw : ∀ x ∈ l, sw71 x) (hm2 : rs.length ≤ maxLen) (hw2 : ∀ x ∈ rs, sw74 x) : ∃ r, Ev (fun k => laws_szTarget.f k l ev li ho rs 1048576) r ∧ (0 ≤ r → (l.length ≤ 1048576 ∧ ∀ y ∈ l, sm71 y) ∧ (rs.length ≤ 1048576 ∧ ∀ y ∈ rs, sm74 y)) := by
 unfold laws_szTarget.f
 obtain ⟨r, e, hr, hs⟩ := szLabelS l 1048576 (by omega) (by omega) hm hw
 by_cases n0 : r < 0
 ·exact ⟨-1, ev_bind e (ev_pos n0 (ev_now _)), fun h => absurd h (by decide)⟩
 obtain ⟨r2, e2, hr2, hs2⟩ := szRelabelS rs r (by omega) hr hm2 hw2
 by_cases n1 : r2 < 0
 ·exact ⟨-1, ev_bind e (ev_neg n0 (ev_bind e2 (ev_pos n1 (ev_now _)))), fun h => absurd h (by decide)⟩
 ·exact ⟨r2, ev_bind e (ev_neg n0 (ev_bind e2 (ev_neg n1 (ev_now _)))), fun h => ⟨hs (by omega), hs2 (by omega)⟩⟩
theorem to_target (hl : l.length ≤ 1048576 ∧ ∀ y ∈ l, sm71 y) (hr : rs.length ≤ 1048576 ∧ ∀ y ∈ rs, sm74 y) : Ev (fun k => laws_toTarget.f k l ev li ho rs) (l.map cv71, ev, li, ho, rs.map cv74) := by
 unfold laws_toTarget.f
 exact ev_bind (toLabelS l hl) (ev_bind (toRelabelS rs hr) (ev_now _))
theorem eq_target (hl : l.length ≤ 1048576 ∧ ∀ y ∈ l, sm71 y) (hr : rs.length ≤ 1048576 ∧ ∀ y ∈ rs, sm74 y) : Ev (fun k => laws_eqTarget.f k (l.map cv71) ev li ho (rs.map cv74) (l.map cv71) ev li ho (rs.map cv74)) true := by
 unfold laws_eqTarget.f
 refine ev_bind (eqLabelS _ (by rw [List.length_map]; exact hl.1)) (ev_pos rfl (ev_pos rfl (ev_pos rfl (ev_neg (by simp) (ev_bind (eqRelabelS _ (by rw [List.length_map]; exact hr.1) (seR_cv rs hr)) (ev_pos rfl (ev_now _)))))))
end

end Go.Proofs.Ytbejcmfpmoaddaa.U
namespace Go.Proofs.Ytbejcmfpmoaddaa.U
open Go.RowKit Go.Proofs.Ytbejcmfpmoaddaa.Pr Go.Proofs.YtbejcmfpmoaddaaW.PrintWords Go.Proofs.YtbejcmfpmoaddaaW.PrintLast Go.Proofs.YtbejcmfpmoaddaaW.PrintMore
set_option linter.unusedVariables false
set_option linter.unusedSimpArgs false
/-- The text of some bytes. -/
def bs (l : List UInt8) : ByteArray := ⟨l.toArray⟩
theorem Y_bs (l : List UInt8) : Y (bs l) = l := by simp [bs]
theorem bs_size (l : List UInt8) : (bs l).size = l.length := by rw [← Y_len, Y_bs]
theorem Y_app (a b : ByteArray) : Y (a ++ b) = Y a ++ Y b := by simp [ByteArray.data_append]
theorem bs_app (a b : List UInt8) : bs a ++ bs b = bs (a ++ b) := Y_inj (by rw [Y_app, Y_bs, Y_bs, Y_bs])
def ints (l : List UInt8) : List Int := l.map fun c => (c.toNat : Int)
theorem ints_len (l : List UInt8) : (ints l).length = l.length := List.length_map ..
theorem ints_two (l : List UInt8) (c : UInt8) : ints l ++ [92] ++ [(c.toNat : Int)] = ints (l ++ [92, c]) := by simp [ints]
theorem ints_one (l : List UInt8) (c : UInt8) : ints l ++ [(c.toNat : Int)] = ints (l ++ [c]) := by simp [ints]
theorem strOf_ints (l : List UInt8) : strOfNums (ints l) = bs l := by
 unfold strOfNums ints bs
 rw [List.map_map]
 congr 2
 rw [show ((fun n => UInt8.ofNat n.toNat) ∘ fun (c : UInt8) => (c.toNat : Int)) = id from by funext c; simp, List.map_id]
def esc (c : UInt8) : List UInt8 := if (c.toNat : Int) = 34 ∨ (c.toNat : Int) = 92 then [92, c] else [c]
/-- A text in quotes: a quote and a backslash stand behind a backslash. -/
def quoteL (l : List UInt8) : List UInt8 := 34 :: (l.flatMap esc ++ [34])
theorem esc_len (c : UInt8) : (esc c).length ≤ 2 := by unfold esc; split <;> simp
theorem escs_len : ∀ l : List UInt8, (l.flatMap esc).length ≤ 2 * l.length := by
 intro l
 induction l with
 | nil => simp
 | cons c l ih => have := esc_len c; rw [List.flatMap_cons, List.length_append, List.length_cons]; omega
theorem quoteL_len (l : List UInt8) : (quoteL l).length ≤ 2 * l.length + 2 := by
 have := escs_len l
 unfold quoteL
 simp only [List.length_cons, List.length_append, List.length_nil]
 omega
theorem quote_spec (s : ByteArray) (hs : s.size ≤ 1048576) : Ev (fun k => spec_l2Quoted.f k s) (bs (quoteL (Y s))) := by
 unfold spec_l2Quoted.f
 have key := up_ind s.size (fun i => ∀ acc : List UInt8, acc.length ≤ 2 * i + 1 → Ev (fun k => spec_l2Quoted.l0 k s (ints acc) (i : Int)) (bs (acc ++ (((Y s).drop i).flatMap esc ++ [34])))) ?_ ?_ 0 (by omega) [34] (by simp)
 ·exact key
 ·intro acc ha
  rw [Y_drop_end, List.flatMap_nil, List.nil_append]
  refine ev_step (fun _ => spec_l2Quoted.l0.eq_2 ..) (ev_neg (by omega) (ev_pos (by rw [ints_len]; omega) ?_))
  rw [show ints acc ++ [34] = ints (acc ++ [34]) from by simp [ints], strOf_ints]
  exact ev_now _
 ·intro i h ih acc ha
  refine ev_step (fun _ => spec_l2Quoted.l0.eq_2 ..) (ev_pos (by omega) (ev_pos (by omega) ?_))
  rw [bt_at h, Y_drop h, List.flatMap_cons, w64n h (by omega)]
  have two : (((Y s)[i]'(by rw [Y_len]; exact h)).toNat : Int) = 34 ∨ (((Y s)[i]'(by rw [Y_len]; exact h)).toNat : Int) = 92 → Ev (fun k => if (ints acc).length < 140737488355328 then ((some (ints acc ++ [92] : List Int)).bind fun y => (if y.length < 140737488355328 then (spec_l2Quoted.l0 k s (y ++ [(((Y s)[i]'(by rw [Y_len]; exact h)).toNat : Int)]) ((i + 1 : Nat) : Int)) else none)) else none) (bs (acc ++ (esc (Y s)[i] ++ ((Y s).drop (i + 1)).flatMap esc ++ [34]))) := by
   intro hc
   refine ev_pos (by rw [ints_len]; omega) (ev_some (ev_pos (by rw [List.length_append, ints_len, List.length_singleton]; omega) ?_))
   rw [ints_two]
   have := ih (acc ++ [92, (Y s)[i]]) (by rw [List.length_append, List.length_cons, List.length_singleton]; omega)
   rw [show esc _ = _ from if_pos hc]
   simpa only [List.append_assoc] using this
  refine ev_ite (fun h1 => two (Or.inl h1)) (fun h1 => ev_ite (fun h2 => two (Or.inr h2)) (fun h2 => ev_pos (by rw [ints_len]; omega) ?_))
  rw [ints_one]
  have := ih (acc ++ [(Y s)[i]]) (by rw [List.length_append, List.length_singleton]; omega)
  rw [show esc _ = _ from if_neg (by rintro (e | e) <;> contradiction)]
  simpa only [List.append_assoc] using this
theorem quote_impl (s : ByteArray) (hs : s.size ≤ 1048576) : Ev (fun k => impl_quote.f k s) (bs (quoteL (Y s))) := by
 unfold impl_quote.f
 have key := up_ind s.size (fun i => ∀ acc : List UInt8, acc.length ≤ 2 * i + 1 → Ev (fun k => impl_quote.l0 k s (ints acc) (s.size : Int) (i : Int)) (bs (acc ++ (((Y s).drop i).flatMap esc ++ [34])))) ?_ ?_ 0 (by omega) [34] (by simp)
 ·exact key
 ·intro acc ha
  rw [Y_drop_end, List.flatMap_nil, List.nil_append]
  refine ev_step (fun _ => impl_quote.l0.eq_2 ..) (ev_neg (by omega) (ev_pos (by rw [ints_len]; omega) ?_))
  rw [show ints acc ++ [34] = ints (acc ++ [34]) from by simp [ints], strOf_ints]
  exact ev_now _
 ·intro i h ih acc ha
  refine ev_step (fun _ => impl_quote.l0.eq_2 ..) (ev_pos (by omega) (ev_pos (by omega) (ev_pos (by omega) ?_)))
  rw [bt_at h, Y_drop h, List.flatMap_cons, w64n h (by omega)]
  have two : (((Y s)[i]'(by rw [Y_len]; exact h)).toNat : Int) = 34 ∨ (((Y s)[i]'(by rw [Y_len]; exact h)).toNat : Int) = 92 → Ev (fun k => if (ints acc).length < 140737488355328 then ((some (ints acc ++ [92] : List Int)).bind fun y => (if y.length < 140737488355328 then (impl_quote.l0 k s (y ++ [(((Y s)[i]'(by rw [Y_len]; exact h)).toNat : Int)]) (s.size : Int) ((i + 1 : Nat) : Int)) else none)) else none) (bs (acc ++ (esc (Y s)[i] ++ ((Y s).drop (i + 1)).flatMap esc ++ [34]))) := by
   intro hc
   refine ev_pos (by rw [ints_len]; omega) (ev_some (ev_pos (by rw [List.length_append, ints_len, List.length_singleton]; omega) ?_))
   rw [ints_two]
   have := ih (acc ++ [92, (Y s)[i]]) (by rw [List.length_append, List.length_cons, List.length_singleton]; omega)
   rw [show esc _ = _ from if_pos hc]
   simpa only [List.append_assoc] using this
  refine ev_ite (fun h1 => two (Or.inl h1)) (fun h1 => ev_ite (fun h2 => two (Or.inr h2)) (fun h2 => ev_pos (by rw [ints_len]; omega) ?_))
  rw [ints_one]
  have := ih (acc ++ [(Y s)[i]]) (by rw [List.length_append, List.length_singleton]; omega)
  rw [show esc _ = _ from if_neg (by rintro (e | e) <;> contradiction)]
  simpa only [List.append_assoc] using this
end Go.Proofs.Ytbejcmfpmoaddaa.U
namespace Go.Proofs.Ytbejcmfpmoaddaa.U
open Go.RowKit Go.Proofs.Ytbejcmfpmoaddaa.Pr Go.Proofs.YtbejcmfpmoaddaaW.PrintWords Go.Proofs.YtbejcmfpmoaddaaW.PrintLast Go.Proofs.YtbejcmfpmoaddaaW.PrintMore
set_option linter.unusedVariables false
set_option linter.unusedSimpArgs false
theorem riseL_all : ∀ (l : List S78) (p : Option (List UInt8)), riseL p l = true → ∀ x ∈ l, nameL (Y x.f0) = true ∧ valL (Y x.f1) = true := by
 intro l
 induction l with
 | nil => intro p _ x hx; cases hx
 | cons y ys ih =>
  intro p h x hx
  simp only [riseL, Bool.and_eq_true] at h
  rcases List.mem_cons.1 hx with rfl | hx
  ·exact ⟨h.1.1.1, h.1.1.2⟩
  ·exact ih _ h.2 x hx
theorem goodL_all {l : List S78} (h : goodL l = true) : l.length ≤ 20 ∧ ∀ x ∈ l, x.f0.size ≤ 40 ∧ x.f1.size ≤ 100 := by
 unfold goodL at h
 rw [Bool.and_eq_true, decide_eq_true_eq] at h
 refine ⟨h.1, fun x hx => ?_⟩
 obtain ⟨h1, h2⟩ := riseL_all l none h.2 x hx
 simp only [nameL, valL, prL, Bool.and_eq_true, decide_eq_true_eq, Y_len] at h1 h2
 exact ⟨h1.1.1.2, h2.2.1⟩
def itemL (x : S78) : List UInt8 := Y x.f0 ++ 61 :: quoteL (Y x.f1)
theorem itemL_len (x : S78) (h : x.f0.size ≤ 40 ∧ x.f1.size ≤ 100) : (itemL x).length ≤ 300 := by
 have := quoteL_len (Y x.f1)
 unfold itemL
 rw [List.length_append, List.length_cons, Y_len]
 rw [Y_len] at this
 omega
theorem item_eq (x : S78) : x.f0 ++ (⟨#[61]⟩ : ByteArray) ++ bs (quoteL (Y x.f1)) = bs (itemL x) := Y_inj (by rw [Y_app, Y_app, Y_bs, Y_bs]; unfold itemL; rw [List.append_assoc]; rfl)
def tailT : Bool → List S78 → List UInt8
 | _, [] => [125]
 | b, x :: xs => (if b = true then [] else [44]) ++ (itemL x ++ tailT false xs)
/-- Labels' text. -/
def textL (l : List S78) : List UInt8 := 123 :: tailT true l
theorem text_spec_l (l : List S78) (hn : l.length ≤ 20) (hb : ∀ x ∈ l, x.f0.size ≤ 40 ∧ x.f1.size ≤ 100) : Ev (fun k => spec_l2Text.f k l) (bs (textL l)) := by
 unfold spec_l2Text.f
 have hrd : ∀ (i : Nat) (h : i < l.length), rd_T78 l (i : Int) = l[i] := fun i h => getD_lt h
 have key := up_ind l.length (fun i => ∀ acc : List UInt8, acc.length ≤ 400 * i + 1 → Ev (fun k => spec_l2Text.l0 k (bs acc) l (l.length : Int) (i : Int)) (bs (acc ++ tailT (decide (i = 0)) (l.drop i)))) ?_ ?_ 0 (by omega) [123] (by simp)
 ·exact key
 ·intro acc ha
  rw [List.drop_length]
  refine ev_step (fun _ => spec_l2Text.l0.eq_2 ..) (ev_neg (by omega) (ev_pos (by rw [bs_size]; omega) ?_))
  rw [show (⟨#[125]⟩ : ByteArray) = bs [125] from rfl, bs_app]
  exact ev_now _
 ·intro i h ih acc ha
  obtain ⟨b1, b2⟩ := hb l[i] (List.getElem_mem h)
  have ql := quoteL_len (Y l[i].f1)
  rw [Y_len] at ql
  have il := itemL_len l[i] ⟨b1, b2⟩
  refine ev_step (fun _ => spec_l2Text.l0.eq_2 ..) (ev_pos (by omega) (ev_pos (by omega) (ev_pos (by omega) ?_)))
  rw [hrd i h, List.drop_eq_getElem_cons h, w64n h (by omega)]
  refine ev_ite (fun h1 => ?_) (fun h1 => ?_)
  ·refine ev_pos (by rw [bs_size]; omega) (ev_pos (by omega) (ev_bind (quote_spec _ (by omega)) (ev_pos (by rw [ByteArray.size_append, bs_size]; show _ + 1 + _ ≤ _; omega) ?_)))
   rw [item_eq, show (⟨#[44]⟩ : ByteArray) = bs [44] from rfl, bs_app, bs_app, bs_size, bs_size]
   refine ev_pos (by rw [List.length_append, List.length_singleton]; omega) ?_
   have := ih (acc ++ [44] ++ itemL l[i]) (by rw [List.length_append, List.length_append, List.length_singleton]; omega)
   rw [decide_eq_false (by omega)] at this ⊢
   simpa [tailT] using this
  ·obtain rfl : i = 0 := by omega
   refine ev_pos (by omega) (ev_bind (quote_spec _ (by omega)) (ev_pos (by rw [ByteArray.size_append, bs_size]; show _ + 1 + _ ≤ _; omega) ?_))
   rw [item_eq, bs_app, bs_size, bs_size]
   refine ev_pos (by omega) ?_
   have := ih (acc ++ itemL l[0]) (by rw [List.length_append]; omega)
   rw [decide_eq_false (by omega)] at this
   rw [decide_eq_true rfl]
   simpa [tailT] using this
theorem joinTail_len (B : Nat) : ∀ r : List (List UInt8), (∀ x ∈ r, x.length ≤ B) → (Lib.joinTail [44] r).length ≤ r.length * (B + 1) := by
 intro r
 induction r with
 | nil => intro _; simp [Lib.joinTail]
 | cons x r ih =>
  intro h
  have h1 := ih (fun y hy => h y (List.mem_cons_of_mem _ hy))
  have h2 := h x (List.mem_cons_self ..)
  unfold Lib.joinTail at h1 ⊢
  rw [List.map_cons, List.flatten_cons, List.length_append, List.length_append, List.length_singleton, List.length_cons, Nat.add_mul, Nat.one_mul]
  omega
theorem joinTail_items : ∀ l : List S78, Lib.joinTail [44] (l.map itemL) ++ [125] = tailT false l := by
 intro l
 induction l with
 | nil => rfl
 | cons x l ih =>
  simp only [tailT]
  rw [← ih]
  simp [Lib.joinTail]
theorem join_items (l : List S78) : Lib.join (l.map itemL) [44] ++ [125] = tailT true l := by
 cases l with
 | nil => rfl
 | cons x l =>
  rw [List.map_cons, Lib.join_cons, List.append_assoc, joinTail_items]
  rfl
theorem join_len (l : List S78) (hn : l.length ≤ 20) (hb : ∀ x ∈ l, x.f0.size ≤ 40 ∧ x.f1.size ≤ 100) : (Lib.join (l.map itemL) [44]).length ≤ 6321 := by
 cases l with
 | nil => simp [Lib.join_nil]
 | cons x l =>
  have h1 := joinTail_len 300 (l.map itemL) (fun y hy => by
   obtain ⟨z, hz, rfl⟩ := List.mem_map.1 hy
   exact itemL_len z (hb z (List.mem_cons_of_mem _ hz)))
  have h2 := itemL_len x (hb x (List.mem_cons_self ..))
  rw [List.length_map] at h1
  rw [List.length_cons] at hn
  rw [List.map_cons, Lib.join_cons, List.length_append]
  omega
theorem text_impl_l (l : List S78) (hn : l.length ≤ 20) (hb : ∀ x ∈ l, x.f0.size ≤ 40 ∧ x.f1.size ≤ 100) : Ev (fun k => impl_LabelsText.l0 k [] l (l.length : Int) 0) (bs (textL l)) := by
 have hrd : ∀ (i : Nat) (h : i < l.length), rd_T78 l (i : Int) = l[i] := fun i h => getD_lt h
 have key := up_ind l.length (fun i => Ev (fun k => impl_LabelsText.l0 k ((l.take i).map fun x => bs (itemL x)) l (l.length : Int) (i : Int)) (bs (textL l))) ?_ ?_ 0 (by omega)
 ·exact key
 ·rw [List.take_length]
  refine ev_step (fun _ => impl_LabelsText.l0.eq_2 ..) (ev_neg (by omega) ?_)
  have e1 : ((l.map fun x => bs (itemL x)).map (·.data.toList)) = l.map itemL := by rw [List.map_map]; exact congrArg (fun f => l.map f) (funext fun x => Y_bs _)
  have e2 := join_len l hn hb
  refine ev_bind (a := bs (Lib.join (l.map itemL) [44])) (ev_eq ?_) ?_
  ·unfold strings_Join.f
   rw [e1]
   exact if_pos ⟨by rw [List.length_map]; omega, by show (Lib.join (l.map itemL) [44]).length ≤ _; omega⟩
  ·refine ev_pos (by rw [bs_size]; omega) ?_
   rw [show (⟨#[123]⟩ : ByteArray) = bs [123] from rfl, show (⟨#[125]⟩ : ByteArray) = bs [125] from rfl, bs_app, bs_app, bs_size]
   refine ev_pos (by rw [List.length_append, List.length_singleton]; omega) ?_
   rw [List.append_assoc, join_items]
   exact ev_now _
 ·intro i h ih
  obtain ⟨b1, b2⟩ := hb l[i] (List.getElem_mem h)
  have ql := quoteL_len (Y l[i].f1)
  rw [Y_len] at ql
  refine ev_step (fun _ => impl_LabelsText.l0.eq_2 ..) (ev_pos (by omega) (ev_pos (by omega) (ev_pos (by omega) ?_)))
  rw [hrd i h, w64n h (by omega)]
  refine ev_pos (by omega) (ev_bind (quote_impl _ (by omega)) (ev_pos (by rw [ByteArray.size_append, bs_size]; show _ + 1 + _ ≤ _; omega) (ev_pos (by rw [List.length_map, List.length_take]; omega) ?_)))
  rw [item_eq]
  rw [List.take_succ_eq_append_getElem h, List.map_append] at ih
  exact ih
def textOf (l : List S78) : ByteArray := if goodL l = true then bs (textL l) else bs []
theorem text_spec (l : List S78) (hf : fitL l) : Ev (fun k => spec_LabelsText.f k l) (textOf l) := by
 unfold spec_LabelsText.f textOf
 refine ev_bind (goodLabels_spec l hf) (ev_ite (fun h => ?_) (fun h => ?_))
 ·obtain ⟨h1, h2⟩ := goodL_all h
  rw [if_pos h]
  exact ev_bind (text_spec_l l h1 h2) (ev_now _)
 ·rw [if_neg h]
  exact ev_now _
theorem text_impl (l : List S78) (hf : fitL l) : Ev (fun k => impl_LabelsText.f k l) (textOf l) := by
 unfold impl_LabelsText.f textOf
 refine ev_bind (goodLabels_impl l hf) (ev_ite (fun h => ?_) (fun h => ?_))
 ·obtain ⟨h1, h2⟩ := goodL_all h
  rw [if_pos h]
  exact text_impl_l l h1 h2
 ·rw [if_neg h]
  exact ev_now _
end Go.Proofs.Ytbejcmfpmoaddaa.U
namespace Go.Proofs.Ytbejcmfpmoaddaa.U
open Go.RowKit Go.Proofs.Ytbejcmfpmoaddaa.Pr Go.Proofs.YtbejcmfpmoaddaaW.PrintWords Go.Proofs.YtbejcmfpmoaddaaW.PrintLast Go.Proofs.YtbejcmfpmoaddaaW.PrintMore
set_option linter.unusedVariables false
set_option linter.unusedSimpArgs false
theorem mix_same (k : Nat) : ∀ (x : Int) (xs : List Int) (n i : Int), 0 ≤ x → x < 18446744073709551616 → spec_Mix.l0 k x xs n i = impl_Mix.l0 k x xs n i := by
 induction k with
 | zero => intros; rfl
 | succ k ih =>
  intro x xs n i h0 h1
  simp only [spec_Mix.l0, impl_Mix.l0]
  split
  ·split
   ·split
    ·exact ih _ _ _ _ (bu64 _ _ _).1 (bu64 _ _ _).2
    ·rfl
   ·rfl
  ·rw [Int.tdiv_eq_ediv_of_nonneg h0, wu64]
   congr 2
   omega
theorem mix_ends (xs : List Int) (hn : xs.length ≤ 1048576) (d : Nat) : ∀ (k : Nat) (x : Int) (i : Nat), i + d = xs.length → d < k → ∃ r, impl_Mix.l0 k x xs (xs.length : Int) (i : Int) = some r := by
 induction d with
 | zero =>
  intro k x i h1 h2
  obtain ⟨k, rfl⟩ : ∃ m, k = m + 1 := ⟨k - 1, by omega⟩
  simp only [impl_Mix.l0]
  rw [if_neg (by omega)]
  exact ⟨_, rfl⟩
 | succ d ih =>
  intro k x i h1 h2
  obtain ⟨k, rfl⟩ : ∃ m, k = m + 1 := ⟨k - 1, by omega⟩
  simp only [impl_Mix.l0]
  rw [if_pos (by omega), if_pos (by omega), if_pos (by omega), w64 (by omega) (by omega), show ((i : Int) + 1) = ((i + 1 : Nat) : Int) from by omega]
  exact ih k _ (i + 1) (by omega) (by omega)
theorem mix_both (l : List Int) (hl : l.length ≤ 1048576) : ∃ r, Ev (fun k => impl_Mix.f k l) r ∧ Ev (fun k => spec_Mix.f k l) r := by
 obtain ⟨r, hr⟩ := mix_ends l hl l.length (l.length + 1) 1469598103 0 (by omega) (by omega)
 have e1 : Ev (fun k => impl_Mix.f k l) r := Ev.of (impl_Mix.mono l) (k := l.length + 1) hr
 exact ⟨r, e1, Ev.congr (fun k => mix_same k _ _ _ _ (by omega) (by omega)) e1⟩
end Go.Proofs.Ytbejcmfpmoaddaa.U
namespace Go.Proofs.Ytbejcmfpmoaddaa.U
open Go.RowKit Go.Proofs.Ytbejcmfpmoaddaa.Pr Go.Proofs.YtbejcmfpmoaddaaW.PrintWords Go.Proofs.YtbejcmfpmoaddaaW.PrintLast Go.Proofs.YtbejcmfpmoaddaaW.PrintMore
set_option linter.unusedVariables false
set_option linter.unusedSimpArgs false
theorem textOf_size (l : List S78) : (textOf l).size ≤ 6323 := by
 unfold textOf
 split
 ·rename_i h
  obtain ⟨h1, h2⟩ := goodL_all h
  have h3 := join_len l h1 h2
  have h4 := congrArg List.length (join_items l)
  rw [List.length_append, List.length_singleton] at h4
  rw [bs_size]
  unfold textL
  rw [List.length_cons]
  omega
 ·rw [bs_size]; simp
theorem hash_two (l : List S78) (hf : fitL l) : ∃ r, Ev (fun k => impl_HashLabels.f k l) r ∧ Ev (fun k => spec_HashLabels.f k l) r := by
 have hs := textOf_size l
 obtain ⟨r, e1, e2⟩ := mix_both (bytesOf (textOf l)) (by rw [bytesOf_length]; omega)
 refine ⟨r, ?_, ?_⟩
 ·unfold impl_HashLabels.f
  exact ev_bind (text_impl l hf) (ev_pos (by omega) e1)
 ·unfold spec_HashLabels.f
  exact ev_bind (text_spec l hf) (ev_pos (by omega) e2)
end Go.Proofs.Ytbejcmfpmoaddaa.U
namespace Go.Proofs.Ytbejcmfpmoaddaa.U
open Go.RowKit Go.Proofs.Ytbejcmfpmoaddaa.Pr Go.Proofs.YtbejcmfpmoaddaaW.PrintWords Go.Proofs.YtbejcmfpmoaddaaW.PrintLast Go.Proofs.YtbejcmfpmoaddaaW.PrintMore
set_option linter.unusedVariables false
set_option linter.unusedSimpArgs false
theorem eqIntS (l : List Int) (hl : l.length ≤ 1048576) : Ev (fun k => laws_eqIntS.f k l l) true := by
 unfold laws_eqIntS.f
 refine ev_pos rfl ?_
 refine up_ind l.length (fun i => Ev (fun k => laws_eqIntS.l0 k l l (i : Int)) true) ?_ ?_ 0 (by omega)
 ·refine ev_step (fun _ => laws_eqIntS.l0.eq_2 ..) ?_
  refine ev_neg (by omega) ?_
  exact ev_now _
 ·intro i h ih
  refine ev_step (fun _ => laws_eqIntS.l0.eq_2 ..) ?_
  repeat (first | (with_reducible refine ev_pos (by first | omega | rfl | decide) ?_) | (with_reducible refine ev_neg (by first | omega | decide) ?_))
  rw [w64n h (by omega)]
  exact ih
theorem markIntS (l : List Int) (hl : l.length ≤ 1048576) (c : Int) (h0 : 0 < c) (h1 : c ≤ 4611686018427387904) : ∃ y c', Ev (fun k => laws_markIntS.f k l c) (c', y) ∧ Ev (fun k => laws_heldIntS.f k y c) c' ∧ c ≤ c' ∧ c' ≤ c + 1 * l.length := by
 have key := up_ind l.length (fun i => ∀ (x : List Int) (c : Int), x.length = l.length → 0 < c → c + 1 * (l.length - i : Nat) ≤ 9000000000000000000 → ∃ y c', Ev (fun k => laws_markIntS.l0 k x c (i : Int)) (c', y) ∧ Ev (fun k => laws_heldIntS.l0 k y c (i : Int)) c' ∧ y.length = l.length ∧ (∀ j, j < i → y[j]? = x[j]?) ∧ c ≤ c' ∧ c' ≤ c + 1 * (l.length - i : Nat)) ?d ?s 0 (by omega) l c rfl h0 (by omega)
 case d =>
  intro x c hx h0 h1
  refine ⟨x, c, ev_step (fun _ => laws_markIntS.l0.eq_2 ..) (ev_neg (by omega) (ev_now _)), ev_step (fun _ => laws_heldIntS.l0.eq_2 ..) (ev_neg (by omega) (ev_now _)), hx, fun _ _ => rfl, by omega, by omega⟩
 case s =>
  intro i h ih x c hx h0 h1
  obtain ⟨y, c', e1, e2, hy, hj, q1, q2⟩ := ih (x.set i c) (c + 1) (by simp [hx]) (by omega) (by omega)
  refine ⟨y, c', ev_step (fun _ => laws_markIntS.l0.eq_2 ..) ?_, ev_step (fun _ => laws_heldIntS.l0.eq_2 ..) ?_, hy, fun j h' => ?_, by omega, by omega⟩
  ·repeat (first | (with_reducible refine ev_pos (by first | omega | rfl | decide) ?_) | (with_reducible refine ev_neg (by first | omega | decide) ?_))
   rw [w64 (x := c + 1) (by omega) (by omega), w64n h (by omega), Int.toNat_natCast]
   exact e1
  ·repeat (first | (with_reducible refine ev_pos (by first | omega | rfl | decide) ?_) | (with_reducible refine ev_neg (by first | omega | decide) ?_))
   have ey : rd y (i : Int) = c := by
    have := hj i (by omega)
    rw [List.getElem?_set_self (by omega), List.getElem?_eq_getElem (by omega)] at this
    rw [rd_at (by omega)]
    exact Option.some.inj this
   rw [ey]
   refine ev_pos rfl ?_
   rw [w64 (x := c + 1) (by omega) (by omega), w64n h (by omega)]
   exact e2
  ·rw [hj j (by omega), List.getElem?_set_ne (by omega)]
 obtain ⟨y, c', e1, e2, _, _, q1, q2⟩ := key
 exact ⟨y, c', e1, e2, q1, by omega⟩
end Go.Proofs.Ytbejcmfpmoaddaa.U
namespace Go.Proofs.Ytbejcmfpmoaddaa.U
open Go.RowKit Go.Proofs.Ytbejcmfpmoaddaa.Pr Go.Proofs.YtbejcmfpmoaddaaW.PrintWords Go.Proofs.YtbejcmfpmoaddaaW.PrintLast Go.Proofs.YtbejcmfpmoaddaaW.PrintMore
set_option linter.unusedVariables false
set_option linter.unusedSimpArgs false
theorem tm_yes {x : Int} (h : 0 ≤ x ∧ x ≤ 1000000000000) : impl_isTime.f x = some true ∧ spec_l3Time.f x = some true := by
 unfold impl_isTime.f spec_l3Time.f
 rw [if_pos h.1, decide_eq_true h.2]
 exact ⟨rfl, rfl⟩
theorem tm_no {x : Int} (h : ¬ (0 ≤ x ∧ x ≤ 1000000000000)) : impl_isTime.f x = some false ∧ spec_l3Time.f x = some false := by
 unfold impl_isTime.f spec_l3Time.f
 by_cases h0 : x ≥ 0
 ·rw [if_pos h0, decide_eq_false (by omega)]
  exact ⟨rfl, rfl⟩
 ·rw [if_neg h0]
  exact ⟨rfl, rfl⟩
theorem mark_strings (n : Nat) (hn : n ≤ 9000000000000000000) : ∀ (d i : Nat) (x : List ByteArray) (c : Int), x.length = n → i + d = n → 0 < c → c + d ≤ 9000000000000000000 → ∃ y, Ev (fun k => laws_markStringS.l0 k x c (i : Int)) (c + d, y) := by
 intro d
 induction d with
 | zero =>
  intro i x c hx hi h0 h1
  refine ⟨x, ev_step (fun _ => laws_markStringS.l0.eq_2 ..) (ev_neg (by omega) ?_)⟩
  rw [show c + ((0 : Nat) : Int) = c from by omega]
  exact ev_now _
 | succ d ih =>
  intro i x c hx hi h0 h1
  obtain ⟨s, es⟩ := markText c h0 (by omega)
  obtain ⟨y, e⟩ := ih (i + 1) (x.set i s) (c + 1) (by simp [hx]) (by omega) (by omega) (by omega)
  refine ⟨y, ev_step (fun _ => laws_markStringS.l0.eq_2 ..) (ev_pos (by omega) (ev_bind es (ev_pos (by omega) ?_)))⟩
  rw [w64 (x := c + 1) (by omega) (by omega), w64n (show i < n from by omega) (by omega), Int.toNat_natCast, show c + ((d + 1 : Nat) : Int) = c + 1 + (d : Int) from by omega]
  exact e
theorem mark_labels (n : Nat) (hn : n ≤ 1048576) : ∀ (d i : Nat) (x : List S78) (c : Int), x.length = n → i + d = n → 0 < c → c + 2 * d ≤ 9000000000000000000 → ∃ y, Ev (fun k => laws_markLabelS.l0 k x c (i : Int)) (c + 2 * d, y) := by
 intro d
 induction d with
 | zero =>
  intro i x c hx hi h0 h1
  refine ⟨x, ev_step (fun _ => laws_markLabelS.l0.eq_2 ..) (ev_neg (by omega) ?_)⟩
  rw [show c + 2 * ((0 : Nat) : Int) = c from by omega]
  exact ev_now _
 | succ d ih =>
  intro i x c hx hi h0 h1
  obtain ⟨s, es⟩ := markText c h0 (by omega)
  obtain ⟨s2, es2⟩ := markText (c + 1) (by omega) (by omega)
  obtain ⟨y, e⟩ := ih (i + 1) ((x.set i ⟨s, (rd_T78 x (i : Int)).f1⟩).set i ⟨(rd_T78 (x.set i ⟨s, (rd_T78 x (i : Int)).f1⟩) (i : Int)).f0, s2⟩) (c + 2) (by simp [hx]) (by omega) (by omega) (by omega)
  refine ⟨y, ev_step (fun _ => laws_markLabelS.l0.eq_2 ..) (ev_pos (by omega) (ev_bind es (ev_pos (by omega) (ev_some ?_))))⟩
  rw [w64 (x := c + 1) (by omega) (by omega), w64 (x := c + 1 + 1) (by omega) (by omega), w64n (show i < n from by omega) (by omega), Int.toNat_natCast, show c + 2 * ((d + 1 : Nat) : Int) = c + 2 + 2 * (d : Int) from by omega, show c + 1 + 1 = c + 2 from by omega]
  exact ev_bind es2 e
theorem mark_rules (n : Nat) (hn : n ≤ 1048576) : ∀ (d i : Nat) (x : List S80) (c : Int), x.length = n → i + d = n → (∀ r ∈ x.drop i, r.f1.length ≤ 1048576) → 0 < c → c + 1048582 * d ≤ 9000000000000000000 → ∃ y c', Ev (fun k => laws_markRelabelS.l0 k x c (i : Int)) (c', y) ∧ c ≤ c' := by
 intro d
 induction d with
 | zero =>
  intro i x c hx hi hr h0 h1
  exact ⟨x, c, ev_step (fun _ => laws_markRelabelS.l0.eq_2 ..) (ev_neg (by omega) (ev_now _)), by omega⟩
 | succ d ih =>
  intro i x c hx hi hr h0 h1
  have hix : i < x.length := by omega
  have hrd : rd_T80 x (i : Int) = x[i] := getD_lt hix
  rw [List.drop_eq_getElem_cons hix] at hr
  have hf := hr x[i] List.mem_cons_self
  have hr' := fun r h => hr r (List.mem_cons_of_mem _ h)
  obtain ⟨y1, e1⟩ := mark_strings x[i].f1.length (by omega) x[i].f1.length 0 x[i].f1 (c + 1) rfl (by omega) (by omega) (by omega)
  obtain ⟨m, hm⟩ : ∃ m : Int, m = c + 1 + (x[i].f1.length : Int) := ⟨_, rfl⟩
  rw [← hm] at e1
  obtain ⟨t2, e2⟩ := markText m (by omega) (by omega)
  obtain ⟨t3, e3⟩ := markText (m + 1) (by omega) (by omega)
  obtain ⟨t4, e4⟩ := markText (m + 2) (by omega) (by omega)
  obtain ⟨t5, e5⟩ := markText (m + 3) (by omega) (by omega)
  obtain ⟨y, c', e, hc⟩ := ih (i + 1) (x.set i ⟨c, y1, t2, t3, t4, t5, m + 4⟩) (m + 5) (by simp [hx]) (by omega) (by rw [List.drop_set_of_lt (by omega)]; exact hr') (by omega) (by omega)
  refine ⟨y, c', ev_step (fun _ => laws_markRelabelS.l0.eq_2 ..) (ev_pos (by omega) (ev_pos (by omega) ?_)), by omega⟩
  rw [hrd, w64 (x := c + 1) (by omega) (by omega), w64n (show i < n from by omega) (by omega), Int.toNat_natCast]
  refine ev_bind (a := (m, y1)) (by unfold laws_markStringS.f; exact e1) ?_
  dsimp only
  rw [w64 (x := m + 1) (by omega) (by omega), show m + 1 + 1 = m + 2 from by omega, w64 (x := m + 2) (by omega) (by omega), show m + 2 + 1 = m + 3 from by omega, w64 (x := m + 3) (by omega) (by omega), show m + 3 + 1 = m + 4 from by omega, w64 (x := m + 4) (by omega) (by omega), show m + 4 + 1 = m + 5 from by omega, w64 (x := m + 5) (by omega) (by omega)]
  exact ev_bind e2 (ev_bind e3 (ev_bind e4 (ev_bind e5 e)))
theorem mark_target (l : List S78) (ev li : Int) (ho : Bool) (rs : List S80) (hl : l.length ≤ 1048576) (hr : rs.length ≤ 1048576) (hf : ∀ r ∈ rs, r.f1.length ≤ 1048576) : ∃ b, Ev (fun k => laws_markTarget.f k l ev li ho rs 1) b ∧ ¬ b.1 < 0 := by
 obtain ⟨y, e⟩ := mark_labels l.length hl l.length 0 l 1 rfl (by omega) (by omega) (by omega)
 obtain ⟨z, c, e2, h2⟩ := mark_rules rs.length hr rs.length 0 rs (1 + 2 * (l.length : Int)) rfl (by omega) (by simpa using hf) (by omega) (by omega)
 refine ⟨(c, y, z), ?_, by show ¬ c < 0; omega⟩
 unfold laws_markTarget.f
 exact ev_bind (a := (1 + 2 * (l.length : Int), y)) (by unfold laws_markLabelS.f; exact e) (ev_bind (a := (c, z)) (by unfold laws_markRelabelS.f; exact e2) (ev_now _))
theorem mix_nn (k : Nat) : ∀ (x : Int) (xs : List Int) (n i r : Int), 0 ≤ x → x < 18446744073709551616 → impl_Mix.l0 k x xs n i = some r → 0 ≤ r := by
 induction k with
 | zero => intro x xs n i r _ _ h; cases h
 | succ k ih =>
  intro x xs n i r h0 h1 h
  simp only [impl_Mix.l0] at h
  split at h
  ·split at h
   ·split at h
    ·exact ih _ _ _ _ _ (bu64 _ _ _).1 (bu64 _ _ _).2 h
    ·cases h
   ·cases h
  ·have := Option.some.inj h
   rw [w64 (by omega) (by omega)] at this
   omega
theorem hash_nn (l : List S78) (r : Int) (e : Ev (fun k => impl_HashLabels.f k l) r) : 0 ≤ r := by
 obtain ⟨K, e⟩ := e
 have h := e K (Nat.le_refl _)
 unfold impl_HashLabels.f at h
 obtain ⟨t, _, h⟩ := Option.bind_eq_some_iff.mp h
 split at h
 ·exact mix_nn K _ _ _ _ _ (by decide) (by decide) h
 ·cases h
section
variable (l : List S78) (ev li : Int) (ho : Bool) (rs : List S80)
theorem off_two (fl : fitL l) (fr : fitRs rs) (hb : tgtB l ev li rs = true) : ∃ o, 0 ≤ o ∧ o < ev ∧ Ev (fun k => impl_OffsetOf.f k l ev li ho rs) o ∧ Ev (fun k => spec_OffsetOf.f k l ev li ho rs) o := by
 have e1 := target_impl l ev li ho rs fl fr
 have e2 := target_spec l ev li ho rs fl fr
 rw [hb] at e1 e2
 have hev : ev ≥ 1 := by
  unfold tgtB at hb
  simp only [Bool.and_eq_true, decide_eq_true_eq] at hb
  exact hb.2.2.2.1
 obtain ⟨h, e3, e4⟩ := hash_two _ fl
 have hn := hash_nn _ _ e3
 unfold impl_OffsetOf.f spec_OffsetOf.f
 refine ⟨Int.tmod h ev, ?_, Int.tmod_lt_of_pos _ (by omega), ev_bind e1 (ev_pos rfl (ev_bind e3 (ev_neg (by omega) (ev_now _)))), ev_bind e2 (ev_pos rfl (ev_bind e4 (ev_neg (by omega) (ev_now _))))⟩
 rw [Int.tmod_eq_emod_of_nonneg hn]
 exact Int.emod_nonneg _ (by omega)
theorem pt_run (t : Int) (hE : 1 ≤ ev) (hE2 : ev ≤ 3600) (ht : t ≤ 1000000000000) : ∀ (d : Nat) (x : Int) (acc : List Int), acc.length + d ≤ 1000 → t < ev * d + x → (∀ d', d = d' + 1 → ev * (d' : Int) + x ≤ t) → 0 ≤ x → x ≤ 2000000000000 → ∃ r, r.length ≤ 1000 ∧ Ev (fun k => impl_PullTimes.l0 k t x acc l ev li ho rs) r ∧ Ev (fun k => spec_PullTimes.l1 k t x acc l ev li ho rs) r := by
 intro d
 induction d with
 | zero =>
  intro x acc ha h1 h2 h3 h4
  have : ev * ((0 : Nat) : Int) = 0 := Int.mul_zero _
  exact ⟨acc, by omega, ev_step (fun _ => impl_PullTimes.l0.eq_2 ..) (ev_neg (by omega) (ev_now _)), ev_step (fun _ => spec_PullTimes.l1.eq_2 ..) (ev_neg (by omega) (ev_now _))⟩
 | succ d ih =>
  intro x acc ha h1 h2 h3 h4
  have hd := h2 d rfl
  have hnn : 0 ≤ ev * (d : Int) := Int.mul_nonneg (by omega) (by omega)
  have hs : ev * ((d + 1 : Nat) : Int) = ev * (d : Int) + ev := by rw [Int.natCast_succ, Int.mul_add, Int.mul_one]
  obtain ⟨r, hr, e1, e2⟩ := ih (x + ev) (acc ++ [x]) (by rw [List.length_append, List.length_singleton]; omega) (by omega) (fun d' h => by
   subst h
   have : ev * ((d' + 1 : Nat) : Int) = ev * (d' : Int) + ev := by rw [Int.natCast_succ, Int.mul_add, Int.mul_one]
   omega) (by omega) (by omega)
  refine ⟨r, hr, ev_step (fun _ => impl_PullTimes.l0.eq_2 ..) (ev_pos (by omega) (ev_pos (by omega) ?_)), ev_step (fun _ => spec_PullTimes.l1.eq_2 ..) (ev_pos (by omega) (ev_pos (by omega) (ev_some (ev_neg (by rw [List.length_append, List.length_singleton]; omega) ?_))))⟩
  ·rw [w64 (by omega) (by omega)]; exact e1
  ·rw [w64 (by omega) (by omega)]; exact e2
theorem pt_over (t : Int) (hE : 1 ≤ ev) (hE2 : ev ≤ 3600) (ht : t ≤ 1000000000000) : ∀ (d : Nat) (x : Int) (acc : List Int), acc.length + d = 1000 → ev * (d : Int) + x ≤ t → 0 ≤ x → Ev (fun k => spec_PullTimes.l1 k t x acc l ev li ho rs) [] := by
 intro d
 induction d with
 | zero =>
  intro x acc ha h1 h3
  have : ev * ((0 : Nat) : Int) = 0 := Int.mul_zero _
  exact ev_step (fun _ => spec_PullTimes.l1.eq_2 ..) (ev_pos (by omega) (ev_pos (by omega) (ev_some (ev_pos (by rw [List.length_append, List.length_singleton]; omega) (ev_now _)))))
 | succ d ih =>
  intro x acc ha h1 h3
  have hnn : 0 ≤ ev * (d : Int) := Int.mul_nonneg (by omega) (by omega)
  have hs : ev * ((d + 1 : Nat) : Int) = ev * (d : Int) + ev := by rw [Int.natCast_succ, Int.mul_add, Int.mul_one]
  refine ev_step (fun _ => spec_PullTimes.l1.eq_2 ..) (ev_pos (by omega) (ev_pos (by omega) (ev_some (ev_neg (by rw [List.length_append, List.length_singleton]; omega) ?_))))
  rw [w64 (by omega) (by omega)]
  exact ih (x + ev) (acc ++ [x]) (by rw [List.length_append, List.length_singleton]; omega) (by omega) (by omega)
theorem pt_find (t F o : Int) (hE : 1 ≤ ev) (hF : F % ev = o) (hF2 : F ≤ 2000000000000) (he : Ev (fun k => spec_OffsetOf.f k l ev li ho rs) o) (r : List Int) (hr : Ev (fun k => spec_PullTimes.l1 k t F [] l ev li ho rs) r) : ∀ (d : Nat) (x : Int), x + d = F → (d : Int) < ev → 0 ≤ x → Ev (fun k => spec_PullTimes.l0 k t x l ev li ho rs) r := by
 intro d
 induction d with
 | zero =>
  intro x hx _ h0
  have e : x = F := by omega
  subst e
  exact ev_step (fun _ => spec_PullTimes.l0.eq_2 ..) (ev_neg (by omega) (ev_bind he (ev_pos (by rw [Int.tmod_eq_emod_of_nonneg h0]; exact hF) hr)))
 | succ d ih =>
  intro x hx hd h0
  refine ev_step (fun _ => spec_PullTimes.l0.eq_2 ..) (ev_neg (by omega) (ev_bind he (ev_neg ?_ ?_)))
  ·rw [Int.tmod_eq_emod_of_nonneg h0, ← hF]
   intro h
   have h2 := Int.emod_eq_emod_iff_emod_sub_eq_zero.1 h.symm
   rw [show F - x = ((d + 1 : Nat) : Int) from by omega, Int.emod_eq_of_lt (by omega) hd] at h2
   omega
  ·rw [w64 (by omega) (by omega)]
   exact ih (x + 1) (by omega) (by omega) (by omega)
theorem pt_two (a b : Int) (fl : fitL l) (fr : fitRs rs) : ∃ r, r.length ≤ 1000 ∧ Ev (fun k => impl_PullTimes.f k l ev li ho rs a b) r ∧ Ev (fun k => spec_PullTimes.f k l ev li ho rs a b) r := by
 have e1 := target_impl l ev li ho rs fl fr
 have e2 := target_spec l ev li ho rs fl fr
 have n1 : Ev (fun k => impl_PullTimes.j0 k a b true l ev li ho rs) [] := ev_step (fun _ => impl_PullTimes.j0.eq_2 ..) (ev_pos rfl (ev_now _))
 have n2 : Ev (fun k => spec_PullTimes.j0 k a b true l ev li ho rs) [] := ev_step (fun _ => spec_PullTimes.j0.eq_2 ..) (ev_pos rfl (ev_now _))
 unfold impl_PullTimes.f spec_PullTimes.f
 cases hb : tgtB l ev li rs with
 | false =>
  rw [hb] at e1 e2
  exact ⟨[], by simp, ev_bind e1 (ev_neg (by decide) n1), ev_bind e2 (ev_neg (by decide) n2)⟩
 | true =>
  obtain ⟨o, ho0, ho1, o1, o2⟩ := off_two l ev li ho rs fl fr hb
  have hev : 1 ≤ ev ∧ ev ≤ 3600 := by
   unfold tgtB at hb
   simp only [Bool.and_eq_true, decide_eq_true_eq] at hb
   exact ⟨hb.2.2.2.1, hb.2.2.2.2.1⟩
  rw [hb] at e1 e2
  by_cases ha : 0 ≤ a ∧ a ≤ 1000000000000
  ·obtain ⟨i1, s1⟩ := tm_yes ha
   by_cases hbb : 0 ≤ b ∧ b ≤ 1000000000000
   ·obtain ⟨i2, s2⟩ := tm_yes hbb
    obtain ⟨hE, hE2⟩ := hev
    have m0 := Int.emod_nonneg (o - a) (show ev ≠ 0 from by omega)
    have m1 := Int.emod_lt_of_pos (o - a) (show 0 < ev from by omega)
    obtain ⟨F, hF⟩ : ∃ F : Int, F = a + (o - a) % ev := ⟨_, rfl⟩
    have hFm : F % ev = o := by
     rw [hF, Int.add_emod_emod, show a + (o - a) = o from by omega, Int.emod_eq_of_lt ho0 ho1]
    have hfirst : wrap64 (a + Int.tmod (wrap64 (Int.tmod (wrap64 (o - a)) ev + ev)) ev) = F := by
     have b1 := Int.tmod_lt_of_pos (o - a) (show 0 < ev from by omega)
     have b2 := Int.lt_tmod_of_pos (o - a) (show 0 < ev from by omega)
     rw [w64 (x := o - a) (by omega) (by omega), w64 (x := Int.tmod (o - a) ev + ev) (by omega) (by omega), Int.tmod_eq_emod_of_nonneg (show 0 ≤ Int.tmod (o - a) ev + ev from by omega)]
     have : (Int.tmod (o - a) ev + ev) % ev = (o - a) % ev := by
      rw [Int.tmod_def, show o - a - ev * Int.tdiv (o - a) ev + ev = o - a + ev * (1 - Int.tdiv (o - a) ev) from by rw [Int.mul_sub, Int.mul_one]; omega, Int.add_mul_emod_self_left]
     rw [this, w64 (by omega) (by omega), hF]
    have key : ∃ r : List Int, r.length ≤ 1000 ∧ Ev (fun k => impl_PullTimes.j0 k a b false l ev li ho rs) r ∧ Ev (fun k => spec_PullTimes.l1 k b F [] l ev li ho rs) r := by
     by_cases hFb : F > b
     ·refine ⟨[], by simp, ev_step (fun _ => impl_PullTimes.j0.eq_2 ..) (ev_neg (by decide) (ev_bind o1 (ev_neg (by omega) ?_))), ev_step (fun _ => spec_PullTimes.l1.eq_2 ..) (ev_neg (by omega) (ev_now _))⟩
      rw [hfirst]
      exact ev_pos hFb (ev_step (fun _ => impl_PullTimes.j1.eq_2 ..) (ev_pos rfl (ev_now _)))
     ·have q0 : 0 ≤ (b - F) / ev := Int.ediv_nonneg (by omega) (by omega)
      have qle : (b - F) / ev ≤ b - F := Int.ediv_le_self _ (by omega)
      have hmod := Int.emod_nonneg (b - F) (show ev ≠ 0 from by omega)
      have hmod2 := Int.emod_lt_of_pos (b - F) (show 0 < ev from by omega)
      have hdiv := Int.mul_ediv_add_emod (b - F) ev
      have hcount : wrap64 (wrap64 (Int.tdiv (wrap64 (b - F)) ev) + 1) = (b - F) / ev + 1 := by
       rw [w64 (x := b - F) (by omega) (by omega), Int.tdiv_eq_ediv_of_nonneg (by omega), w64 (x := (b - F) / ev) (by omega) (by omega), w64 (by omega) (by omega)]
      obtain ⟨q, hq⟩ := Int.eq_ofNat_of_zero_le q0
      have go : ∀ r : List Int, Ev (fun k => impl_PullTimes.j1 k b F (decide ((b - F) / ev + 1 > 1000)) l ev li ho rs) r → Ev (fun k => impl_PullTimes.j0 k a b false l ev li ho rs) r := by
       intro r er
       refine ev_step (fun _ => impl_PullTimes.j0.eq_2 ..) (ev_neg (by decide) (ev_bind o1 (ev_neg (by omega) ?_)))
       rw [hfirst, hcount]
       exact ev_neg hFb er
      by_cases hbig : (b - F) / ev + 1 > 1000
      ·refine ⟨[], by simp, go _ ?_, ?_⟩
       ·rw [decide_eq_true hbig]
        exact ev_step (fun _ => impl_PullTimes.j1.eq_2 ..) (ev_pos rfl (ev_now _))
       ·refine pt_over l ev li ho rs b hE hE2 hbb.2 1000 F [] rfl ?_ (by omega)
        have h2 : ev * (1000 : Int) ≤ ev * ((b - F) / ev) := Int.mul_le_mul_of_nonneg_left (by omega) (by omega)
        show ev * (1000 : Int) + F ≤ b
        omega
      ·obtain ⟨r, hr, r1, r2⟩ := pt_run l ev li ho rs b hE hE2 hbb.2 (q + 1) F [] (by show 0 + (q + 1) ≤ 1000; omega) (by
        have : ev * ((q + 1 : Nat) : Int) = ev * (q : Int) + ev := by rw [Int.natCast_succ, Int.mul_add, Int.mul_one]
        rw [hq] at hdiv
        omega) (fun d' h => by
        have : d' = q := by omega
        subst this
        rw [hq] at hdiv
        omega) (by omega) (by omega)
       refine ⟨r, hr, go _ ?_, r2⟩
       rw [decide_eq_false hbig]
       exact ev_step (fun _ => impl_PullTimes.j1.eq_2 ..) (ev_neg (by decide) r1)
    obtain ⟨r, hr, r1, r2⟩ := key
    refine ⟨r, hr, ev_bind e1 (ev_pos rfl (ev_bind (ev_eq i1) (ev_pos rfl (ev_bind (ev_eq i2) r1)))), ev_bind e2 (ev_pos rfl (ev_bind (ev_eq s1) (ev_pos rfl (ev_bind (ev_eq s2) ?_))))⟩
    refine ev_step (fun _ => spec_PullTimes.j0.eq_2 ..) (ev_neg (by decide) ?_)
    exact pt_find l ev li ho rs b F o hE hFm (by omega) o2 r r2 ((o - a) % ev).toNat a (by omega) (by omega) (by omega)
   ·obtain ⟨i2, s2⟩ := tm_no hbb
    exact ⟨[], by simp, ev_bind e1 (ev_pos rfl (ev_bind (ev_eq i1) (ev_pos rfl (ev_bind (ev_eq i2) n1)))), ev_bind e2 (ev_pos rfl (ev_bind (ev_eq s1) (ev_pos rfl (ev_bind (ev_eq s2) n2))))⟩
  ·obtain ⟨i1, s1⟩ := tm_no ha
   exact ⟨[], by simp, ev_bind e1 (ev_pos rfl (ev_bind (ev_eq i1) (ev_neg (by decide) n1))), ev_bind e2 (ev_pos rfl (ev_bind (ev_eq s1) (ev_neg (by decide) n2)))⟩
end

end Go.Proofs.Ytbejcmfpmoaddaa.U

