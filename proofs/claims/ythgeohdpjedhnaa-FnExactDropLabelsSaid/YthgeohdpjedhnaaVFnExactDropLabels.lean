/- Plain lemmas over the printed functions, for the law FnExactDropLabels; each theorem states its own conditions. -/
import Derived.Test.YthgeohdpjedhnaaPrx0
import Derived.Test.YthgeohdpjedhnaaPrxg030f5n1
import Derived.Test.YthgeohdpjedhnaaPrxg04c80n1
import Derived.Test.YthgeohdpjedhnaaPrxg0dd73n1
import Derived.Test.YthgeohdpjedhnaaPrxg47566n1
import Derived.Test.YthgeohdpjedhnaaPrxg51c58n1
import Derived.Test.YthgeohdpjedhnaaPrxg5570bn1
import Derived.Test.YthgeohdpjedhnaaPrxg6eff6n1
import Derived.Test.YthgeohdpjedhnaaPrxg798f8n1
import Derived.Test.YthgeohdpjedhnaaPrxg8672bn1
import Derived.Test.YthgeohdpjedhnaaPrxg95654n1
import Derived.Test.YthgeohdpjedhnaaPrxgaa552n1
import Derived.Test.YthgeohdpjedhnaaPrxgcd579n1
namespace Go.Proofs.Ythgeohdpjedhnaa.U
open Go.RowKit Go.Proofs.Ythgeohdpjedhnaa.Pr Go.Proofs.YthgeohdpjedhnaaW.PrintWords Go.Proofs.YthgeohdpjedhnaaW.PrintLast Go.Proofs.YthgeohdpjedhnaaW.PrintMore
set_option linter.unusedVariables false
set_option linter.unusedSimpArgs false
/-! Words for plain proofs over the printed functions: from some number of rounds on; loops that go up; ranges. -/
theorem w64 {x : Int} (h0 : -9223372036854775808 ≤ x) (h1 : x ≤ 9223372036854775807) : wrap64 x = x := by unfold wrap64; omega
theorem w64n {i n : Nat} (h : i < n) (hn : n ≤ 9223372036854775807) : wrap64 ((i : Int) + 1) = ((i + 1 : Nat) : Int) := by unfold wrap64; omega
theorem wu64 (n : Int) : IntKind.u64.wrap n = n % 18446744073709551616 := by simp [IntKind.wrap, IntKind.bits, IntKind.signed]
theorem bu64 (op : BinOp) (x y : Int) : 0 ≤ bits op .u64 x y ∧ bits op .u64 x y < 18446744073709551616 := by
  unfold bits
  simp only [wu64]
  omega
theorem bu32 (op : BinOp) (x y : Int) : 0 ≤ bits op .u32 x y ∧ bits op .u32 x y < 4294967296 := by
  unfold bits
  simp only [IntKind.wrap_u32]
  omega
theorem or_comm_ (k : IntKind) (x y : Int) : bits .or k x y = bits .or k y x := by
  simp only [bits, BitVec.or_comm]
theorem ev_now {α : Type} (r : α) : Ev (fun _ => some r) r := Ev.now r
theorem ev_eq {α : Type} {g : Option α} {r : α} (h : g = some r) : Ev (fun _ => g) r := ⟨0, fun _ _ => h⟩
theorem ev_pos {α : Type} {c : Prop} [Decidable c] {a b : Nat → Option α} {r : α} (h : c) (e : Ev a r) : Ev (fun k => if c then a k else b k) r := by
  obtain ⟨K, e⟩ := e
  exact ⟨K, fun k hk => (if_pos h).trans (e k hk)⟩
theorem ev_neg {α : Type} {c : Prop} [Decidable c] {a b : Nat → Option α} {r : α} (h : ¬ c) (e : Ev b r) : Ev (fun k => if c then a k else b k) r := by
  obtain ⟨K, e⟩ := e
  exact ⟨K, fun k hk => (if_neg h).trans (e k hk)⟩
theorem ev_ite {α : Type} {c : Prop} [Decidable c] {a b : Nat → Option α} {r : α} (h : c → Ev a r) (h' : ¬ c → Ev b r) : Ev (fun k => if c then a k else b k) r := by
  by_cases hc : c
  · exact ev_pos hc (h hc)
  · exact ev_neg hc (h' hc)
theorem ev_bind {α β : Type} {g : Nat → Option α} {f : Nat → α → Option β} {a : α} {r : β} (h : Ev g a) (k : Ev (fun n => f n a) r) : Ev (fun n => (g n).bind (f n)) r := Ev.bind h k
theorem ev_some {α β : Type} {f : Nat → α → Option β} {a : α} {r : β} (k : Ev (fun n => f n a) r) : Ev (fun n => (some a).bind (f n)) r := Ev.bind (Ev.now a) k
theorem ev_step {α : Type} {g f : Nat → Option α} {r : α} (h : ∀ k, g (k + 1) = f k) (k : Ev f r) : Ev g r := Ev.step h k
theorem ev_one {α : Type} {g : Nat → Option α} {r q : α} (h : Ev g r) (h' : Ev g q) : r = q := by
  obtain ⟨K, h⟩ := h
  obtain ⟨K', h'⟩ := h'
  exact Option.some.inj ((h (max K K') (Nat.le_max_left _ _)).symm.trans (h' _ (Nat.le_max_right _ _)))
/-- What holds at the end and goes down a round, holds at each round. -/
theorem up_ind (n : Nat) (Q : Nat → Prop) (done : Q n) (step : ∀ i, i < n → Q (i + 1) → Q i) : ∀ i, i ≤ n → Q i := by
  have key : ∀ d i, i + d = n → Q i := by
    intro d
    induction d with
    | zero =>
      intro i h
      have e : i = n := by omega
      rw [e]
      exact done
    | succ d ih => intro i h; exact step i (by omega) (ih (i + 1) (by omega))
  exact fun i h => key (n - i) i (by omega)
theorem getD_lt {α : Type} {l : List α} {d : α} {i : Nat} (h : i < l.length) : l.getD ((i : Int).toNat) d = l[i] := by
  rw [Int.toNat_natCast, List.getD_eq_getElem?_getD, List.getElem?_eq_getElem h]
  rfl
theorem rd_at {l : List Int} {i : Nat} (h : i < l.length) : rd l (i : Int) = l[i] := getD_lt h
theorem rdOf_at {α : Type} {d : α} {l : List α} {i : Nat} (h : i < l.length) : rdOf d l (i : Int) = l[i] := getD_lt h
/-- A loop that writes a row anew, element by element. -/
theorem ev_copy {α β : Type} (F : Nat → List β → Int → Option (List β)) (cv : α → β) (l : List α) (x : List β) (hx : x.length = l.length)
    (step : ∀ (i : Nat) (h : i < l.length) (y r : List β), y.length = l.length → Ev (fun k => F k (y.set i (cv l[i])) ((i + 1 : Nat) : Int)) r → Ev (fun k => F k y (i : Int)) r)
    (done : ∀ y : List β, y.length = l.length → Ev (fun k => F k y (l.length : Int)) y) : Ev (fun k => F k x 0) (l.map cv) := by
  refine up_ind l.length (fun i => ∀ y : List β, y.length = l.length → (∀ j, j < i → y[j]? = (l.map cv)[j]?) → Ev (fun k => F k y (i : Int)) (l.map cv)) ?_ ?_ 0 (by omega) x hx (fun j hj => by omega)
  · intro y hy h
    have e : y = l.map cv := by
      apply List.ext_getElem?
      intro j
      by_cases hj : j < l.length
      · exact h j hj
      · rw [List.getElem?_eq_none (by omega), List.getElem?_eq_none (by simp; omega)]
    have d := done y hy
    rw [e] at d ⊢
    exact d
  · intro i hi ih y hy h
    refine step i hi y _ hy (ih _ (by simp [hy]) (fun j hj => ?_))
    by_cases e : j = i
    · subst e
      rw [List.getElem?_set_self (by omega), List.getElem?_map, List.getElem?_eq_getElem hi]
      rfl
    · rw [List.getElem?_set_ne (Ne.symm e)]
      exact h j (by omega)

end Go.Proofs.Ythgeohdpjedhnaa.U
namespace Go.Proofs.Ythgeohdpjedhnaa.U
open Go.RowKit Go.Proofs.Ythgeohdpjedhnaa.Pr Go.Proofs.YthgeohdpjedhnaaW.PrintWords Go.Proofs.YthgeohdpjedhnaaW.PrintLast Go.Proofs.YthgeohdpjedhnaaW.PrintMore
set_option linter.unusedVariables false
set_option linter.unusedSimpArgs false
/-- A string's bytes. -/
abbrev Y (s : ByteArray) : List UInt8 := s.data.toList
theorem Y_eq {s : ByteArray} : s.toList = Y s := ByteArray.toList_eq s
theorem Y_len (s : ByteArray) : (Y s).length = s.size := Array.length_toList
theorem Y_inj {s t : ByteArray} (h : Y s = Y t) : s = t := by
  cases s
  cases t
  congr
  exact Array.toList_inj.1 h
theorem bt_at {s : ByteArray} {i : Nat} (h : i < s.size) : bt s (i : Int) = (((Y s)[i]'(by rw [Y_len]; exact h)).toNat : Int) := by
  unfold bt
  rw [dif_pos (show ((i : Int)).toNat < s.size from by omega)]
  rfl
theorem Y_drop {s : ByteArray} {i : Nat} (h : i < s.size) : (Y s).drop i = (Y s)[i]'(by rw [Y_len]; exact h) :: (Y s).drop (i + 1) := List.drop_eq_getElem_cons _
theorem Y_drop_end (s : ByteArray) : (Y s).drop s.size = [] := by rw [← Y_len, List.drop_length]
def digC (c : UInt8) : Bool := decide (48 ≤ (c.toNat : Int)) && decide ((c.toNat : Int) ≤ 57)
def letC (c : UInt8) : Bool := decide (97 ≤ (c.toNat : Int)) && decide ((c.toNat : Int) ≤ 122) || decide (65 ≤ (c.toNat : Int)) && decide ((c.toNat : Int) ≤ 90)
def wordC (c : UInt8) : Bool := letC c || digC c || decide ((c.toNat : Int) = 95)
def prC (c : UInt8) : Bool := decide (32 ≤ (c.toNat : Int)) && decide ((c.toNat : Int) ≤ 126)
/-- A name: at most 40 letters, digits and _, no digit first. -/
def nameL (l : List UInt8) : Bool := decide (1 ≤ l.length) && decide (l.length ≤ 40) && !(l.head?.any digC) && l.all wordC
def prL (n : Nat) (l : List UInt8) : Bool := decide (l.length ≤ n) && l.all prC
def valL (l : List UInt8) : Bool := decide (1 ≤ l.length) && prL 100 l
/-- How two rows of bytes stand to each other. -/
def cmpL : List UInt8 → List UInt8 → Int
  | [], [] => 0
  | [], _ :: _ => -1
  | _ :: _, [] => 1
  | a :: l, b :: m => if (a.toNat : Int) = (b.toNat : Int) then cmpL l m else if (a.toNat : Int) < (b.toNat : Int) then -1 else 1

end Go.Proofs.Ythgeohdpjedhnaa.U
namespace Go.Proofs.Ythgeohdpjedhnaa.U
open Go.RowKit Go.Proofs.Ythgeohdpjedhnaa.Pr Go.Proofs.YthgeohdpjedhnaaW.PrintWords Go.Proofs.YthgeohdpjedhnaaW.PrintLast Go.Proofs.YthgeohdpjedhnaaW.PrintMore
set_option linter.unusedVariables false
set_option linter.unusedSimpArgs false
theorem digit_impl (c : UInt8) : impl_digitByte.f (c.toNat : Int) = some (digC c) := by
  unfold impl_digitByte.f digC
  by_cases h : (c.toNat : Int) ≥ 48
  · rw [if_pos h, decide_eq_true (show 48 ≤ (c.toNat : Int) from h), Bool.true_and]
  · rw [if_neg h, decide_eq_false (show ¬ 48 ≤ (c.toNat : Int) from h), Bool.false_and]
theorem digit_spec (c : UInt8) : spec_l2Digit.f (c.toNat : Int) = some (digC c) := by
  unfold spec_l2Digit.f digC
  by_cases h : (c.toNat : Int) ≥ 48
  · rw [if_pos h, decide_eq_true (show 48 ≤ (c.toNat : Int) from h), Bool.true_and]
  · rw [if_neg h, decide_eq_false (show ¬ 48 ≤ (c.toNat : Int) from h), Bool.false_and]
theorem letter_impl (c : UInt8) : impl_letterByte.f (c.toNat : Int) = some (letC c) := by
  unfold impl_letterByte.f letC
  by_cases h : (c.toNat : Int) ≥ 97 <;> by_cases h1 : (c.toNat : Int) ≤ 122 <;> by_cases h2 : (c.toNat : Int) ≥ 65 <;> by_cases h3 : (c.toNat : Int) ≤ 90 <;> simp [h, h1, h2, h3] <;> omega
theorem letter_spec (c : UInt8) : spec_l2Letter.f (c.toNat : Int) = some (letC c) := by
  unfold spec_l2Letter.f letC
  by_cases h : (c.toNat : Int) ≥ 97 <;> by_cases h1 : (c.toNat : Int) ≤ 122 <;> by_cases h2 : (c.toNat : Int) ≥ 65 <;> by_cases h3 : (c.toNat : Int) ≤ 90 <;> simp [h, h1, h2, h3] <;> omega
theorem word_impl (c : UInt8) : impl_wordByte.f (c.toNat : Int) = some (wordC c) := by
  unfold impl_wordByte.f wordC
  rw [letter_impl, digit_impl]
  cases letC c <;> cases digC c <;> simp <;> rfl
theorem printed_spec (s : ByteArray) (hs : s.size ≤ 9223372036854775807) : Ev (fun k => spec_l2Printed.f k s) ((Y s).all prC) := by
  refine up_ind s.size (fun i => Ev (fun k => spec_l2Printed.l0 k s (i : Int)) (((Y s).drop i).all prC)) ?_ ?_ 0 (by omega)
  · rw [Y_drop_end]
    exact ev_step (fun _ => spec_l2Printed.l0.eq_2 ..) (ev_neg (by omega) (ev_now _))
  · intro i h ih
    refine ev_step (fun _ => spec_l2Printed.l0.eq_2 ..) (ev_pos (by omega) (ev_pos (by omega) ?_))
    rw [bt_at h, Y_drop h, List.all_cons, w64n h hs]
    unfold prC
    refine ev_ite (fun h1 => ?_) (fun h1 => ev_ite (fun h2 => ?_) (fun h2 => ?_))
    · rw [decide_eq_false (by omega)]
      exact ev_now _
    · rw [decide_eq_false (show ¬ _ ≤ (126 : Int) from by omega), Bool.and_false, Bool.false_and]
      exact ev_now _
    · rw [decide_eq_true (by omega), decide_eq_true (by omega)]
      exact ih
theorem printed_impl (s : ByteArray) (hs : s.size ≤ 9223372036854775807) (n : Nat) : Ev (fun k => impl_printed.f k s (n : Int)) (prL n (Y s)) := by
  unfold impl_printed.f prL
  rw [Y_len]
  refine ev_ite (fun h => ?_) (fun h => ?_)
  · rw [decide_eq_false (by omega)]
    exact ev_now _
  · rw [decide_eq_true (by omega), Bool.true_and]
    refine up_ind s.size (fun i => Ev (fun k => impl_printed.l0 k s (s.size : Int) (i : Int)) (((Y s).drop i).all prC)) ?_ ?_ 0 (by omega)
    · rw [Y_drop_end]
      exact ev_step (fun _ => impl_printed.l0.eq_2 ..) (ev_neg (by omega) (ev_now _))
    · intro i h ih
      refine ev_step (fun _ => impl_printed.l0.eq_2 ..) (ev_pos (by omega) (ev_pos (by omega) (ev_pos (by omega) ?_)))
      rw [bt_at h, Y_drop h, List.all_cons, w64n h hs]
      unfold prC
      refine ev_ite (fun h1 => ?_) (fun h1 => ev_ite (fun h2 => ?_) (fun h2 => ?_))
      · rw [decide_eq_false (by omega)]
        exact ev_now _
      · rw [decide_eq_false (show ¬ _ ≤ (126 : Int) from by omega), Bool.and_false, Bool.false_and]
        exact ev_now _
      · rw [decide_eq_true (by omega), decide_eq_true (by omega)]
        exact ih
theorem value_spec (s : ByteArray) (hs : s.size ≤ 9223372036854775807) : Ev (fun k => spec_l2Value.f k s) (valL (Y s)) := by
  unfold spec_l2Value.f valL prL
  rw [Y_len]
  refine ev_ite (fun h => ev_ite (fun h1 => ?_) (fun h1 => ?_)) (fun h => ?_)
  · rw [decide_eq_true (by omega), decide_eq_true (by omega), Bool.true_and, Bool.true_and]
    exact ev_bind (printed_spec s hs) (ev_now _)
  · rw [decide_eq_false (show ¬ s.size ≤ 100 from by omega), Bool.false_and, Bool.and_false]
    exact ev_now _
  · rw [decide_eq_false (by omega), Bool.false_and]
    exact ev_now _
theorem value_impl (s : ByteArray) (hs : s.size ≤ 9223372036854775807) : Ev (fun k => impl_isValue.f k s) (valL (Y s)) := by
  unfold impl_isValue.f valL
  rw [Y_eq, ]
  refine ev_ite (fun h => ?_) (fun h => ?_)
  · rw [h]
    exact ev_now _
  · have : 1 ≤ (Y s).length := by
      cases e : Y s with
      | nil => exact absurd e h
      | cons a l => simp
    rw [decide_eq_true this, Bool.true_and]
    exact ev_bind (printed_impl s hs 100) (ev_now _)
theorem name_loop_impl (s : ByteArray) (hs : s.size ≤ 9223372036854775807) : Ev (fun k => impl_isName.l0 k s (s.size : Int) 0) ((Y s).all wordC) := by
  refine up_ind s.size (fun i => Ev (fun k => impl_isName.l0 k s (s.size : Int) (i : Int)) (((Y s).drop i).all wordC)) ?_ ?_ 0 (by omega)
  · rw [Y_drop_end]
    exact ev_step (fun _ => impl_isName.l0.eq_2 ..) (ev_neg (by omega) (ev_now _))
  · intro i h ih
    refine ev_step (fun _ => impl_isName.l0.eq_2 ..) (ev_pos (by omega) (ev_pos (by omega) (ev_pos (by omega) ?_)))
    rw [bt_at h, Y_drop h, List.all_cons, w64n h hs]
    refine ev_bind (ev_eq (word_impl _)) (ev_ite (fun h1 => ?_) (fun h1 => ?_))
    · rw [h1]
      exact ih
    · rw [Bool.eq_false_iff.2 h1]
      exact ev_now _
theorem name_loop_spec (s : ByteArray) (hs : s.size ≤ 9223372036854775807) : Ev (fun k => spec_l2Name.l0 k s 0) ((Y s).all wordC) := by
  refine up_ind s.size (fun i => Ev (fun k => spec_l2Name.l0 k s (i : Int)) (((Y s).drop i).all wordC)) ?_ ?_ 0 (by omega)
  · rw [Y_drop_end]
    exact ev_step (fun _ => spec_l2Name.l0.eq_2 ..) (ev_neg (by omega) (ev_now _))
  · intro i h ih
    refine ev_step (fun _ => spec_l2Name.l0.eq_2 ..) (ev_pos (by omega) (ev_pos (by omega) ?_))
    rw [bt_at h, Y_drop h, List.all_cons, w64n h hs]
    unfold wordC
    refine ev_bind (ev_eq (letter_spec _)) (ev_ite (fun h1 => ?_) (fun h1 => ev_bind (ev_eq (digit_spec _)) (ev_ite (fun h2 => ?_) (fun h2 => ev_ite (fun h3 => ?_) (fun h3 => ?_)))))
    · rw [h1]
      exact ih
    · rw [h2, Bool.or_true]
      exact ih
    · rw [decide_eq_true h3, Bool.or_true]
      exact ih
    · rw [Bool.eq_false_iff.2 h1, Bool.eq_false_iff.2 h2, decide_eq_false h3]
      exact ev_now _
theorem name_impl (s : ByteArray) (hs : s.size ≤ 9223372036854775807) : Ev (fun k => impl_isName.f k s) (nameL (Y s)) := by
  unfold impl_isName.f nameL
  rw [Y_eq]
  refine ev_ite (fun h => ?_) (fun h => ?_)
  · rw [h]
    exact ev_step (fun _ => impl_isName.j0.eq_2 ..) (ev_pos rfl (ev_now _))
  · have hl : 1 ≤ (Y s).length := by
      cases e : Y s with
      | nil => exact absurd e h
      | cons a l => simp
    rw [decide_eq_true hl, Y_len, Bool.true_and]
    rw [Y_len] at hl
    refine ev_ite (fun h1 => ?_) (fun h1 => ev_pos (by omega) ?_)
    · rw [decide_eq_false (by omega)]
      exact ev_step (fun _ => impl_isName.j0.eq_2 ..) (ev_pos rfl (ev_now _))
    · rw [decide_eq_true (by omega), Bool.true_and]
      have e0 := bt_at (s := s) (i := 0) (by omega)
      have eh : (Y s).head? = some ((Y s)[0]'(by rw [Y_len]; omega)) := by rw [List.head?_eq_getElem?, List.getElem?_eq_getElem]
      rw [show bt s 0 = bt s ((0 : Nat) : Int) from rfl, e0, eh]
      refine ev_bind (ev_eq (digit_impl _)) (ev_step (fun _ => impl_isName.j0.eq_2 ..) (ev_ite (fun h2 => ?_) (fun h2 => ?_)))
      · rw [Option.any_some, h2]
        exact ev_now _
      · rw [Option.any_some, Bool.eq_false_iff.2 h2]
        exact name_loop_impl s hs
theorem name_spec (s : ByteArray) (hs : s.size ≤ 9223372036854775807) : Ev (fun k => spec_l2Name.f k s) (nameL (Y s)) := by
  unfold spec_l2Name.f nameL
  rw [Y_len]
  refine ev_ite (fun h => ?_) (fun h => ?_)
  · rw [decide_eq_false (by omega)]
    exact ev_step (fun _ => spec_l2Name.j0.eq_2 ..) (ev_pos rfl (ev_now _))
  · rw [decide_eq_true (by omega), Bool.true_and]
    refine ev_ite (fun h1 => ?_) (fun h1 => ev_pos (by omega) ?_)
    · rw [decide_eq_false (by omega)]
      exact ev_step (fun _ => spec_l2Name.j0.eq_2 ..) (ev_pos rfl (ev_now _))
    · rw [decide_eq_true (by omega), Bool.true_and]
      have e0 := bt_at (s := s) (i := 0) (by omega)
      have eh : (Y s).head? = some ((Y s)[0]'(by rw [Y_len]; omega)) := by rw [List.head?_eq_getElem?, List.getElem?_eq_getElem]
      rw [show bt s 0 = bt s ((0 : Nat) : Int) from rfl, e0, eh]
      refine ev_bind (ev_eq (digit_spec _)) (ev_step (fun _ => spec_l2Name.j0.eq_2 ..) (ev_ite (fun h2 => ?_) (fun h2 => ?_)))
      · rw [Option.any_some, h2]
        exact ev_now _
      · rw [Option.any_some, Bool.eq_false_iff.2 h2]
        exact name_loop_spec s hs

end Go.Proofs.Ythgeohdpjedhnaa.U
namespace Go.Proofs.Ythgeohdpjedhnaa.U
open Go.RowKit Go.Proofs.Ythgeohdpjedhnaa.Pr Go.Proofs.YthgeohdpjedhnaaW.PrintWords Go.Proofs.YthgeohdpjedhnaaW.PrintLast Go.Proofs.YthgeohdpjedhnaaW.PrintMore
set_option linter.unusedVariables false
set_option linter.unusedSimpArgs false
def cn (a b : Int) : Int := if a < b then -1 else if a > b then 1 else 0
theorem cmpNum_spec (a b : Int) : spec_l2CmpNum.f a b = some (cn a b) := by
  unfold spec_l2CmpNum.f cn
  by_cases h : a < b
  · rw [if_pos h, if_pos h]
  · rw [if_neg h, if_neg h]
    by_cases h' : a > b
    · rw [if_pos h', if_pos h']
    · rw [if_neg h', if_neg h']
theorem less_cmp : ∀ a b : List UInt8, Op.bytesLess a b = decide (cmpL a b < 0)
  | [], [] => rfl
  | [], _ :: _ => rfl
  | _ :: _, [] => rfl
  | a :: l, b :: m => by
    unfold Op.bytesLess cmpL
    rw [less_cmp l m]
    by_cases e : (a.toNat : Int) = (b.toNat : Int)
    · have : a = b := UInt8.toNat_inj.1 (by omega)
      subst this
      simp
    · have hne : (a == b) = false := by
        rw [beq_eq_false_iff_ne]
        rintro rfl
        exact e rfl
      rw [if_neg e, hne, Bool.false_and, Bool.or_false]
      by_cases h : (a.toNat : Int) < (b.toNat : Int)
      · rw [if_pos h]
        have : a < b := UInt8.lt_iff_toNat_lt.2 (by omega)
        simp [this]
      · rw [if_neg h]
        have : ¬ a < b := fun h' => h (by have := UInt8.lt_iff_toNat_lt.1 h'; omega)
        simp [this]
theorem cmp_spec (s t : ByteArray) (hs : s.size ≤ 9223372036854775807) (ht : t.size ≤ 9223372036854775807) : Ev (fun k => spec_l2CmpText.f k s t) (cmpL (Y s) (Y t)) := by
  refine up_ind (min s.size t.size) (fun i => Ev (fun k => spec_l2CmpText.l0 k s t (i : Int)) (cmpL ((Y s).drop i) ((Y t).drop i))) ?_ ?_ 0 (by omega)
  · generalize hm : min s.size t.size = m
    rcases Nat.lt_or_ge m s.size with h | h
    · have e : m = t.size := by omega
      refine ev_step (fun _ => spec_l2CmpText.l0.eq_2 ..) (ev_pos (by omega) ?_)
      rw [decide_eq_false (by omega)]
      refine ev_step (fun _ => spec_l2CmpText.j1.eq_2 ..) (ev_neg (by decide) (ev_bind (ev_eq (cmpNum_spec _ _)) ?_))
      rw [Y_drop h, show List.drop m (Y t) = [] from by rw [e, Y_drop_end]]
      unfold cn cmpL
      rw [if_neg (by omega), if_pos (by omega)]
      exact ev_now _
    · have e : m = s.size := by omega
      refine ev_step (fun _ => spec_l2CmpText.l0.eq_2 ..) (ev_neg (by omega) ?_)
      refine ev_step (fun _ => spec_l2CmpText.j1.eq_2 ..) (ev_neg (by decide) (ev_bind (ev_eq (cmpNum_spec _ _)) ?_))
      rw [e, Y_drop_end]
      by_cases h2 : s.size < t.size
      · rw [Y_drop h2]
        unfold cn cmpL
        rw [if_pos (by omega)]
        exact ev_now _
      · have e2 : s.size = t.size := by omega
        rw [e2, Y_drop_end]
        unfold cn cmpL
        rw [if_neg (by omega), if_neg (by omega)]
        exact ev_now _
  · intro i h ih
    have h1 : i < s.size := by omega
    have h2 : i < t.size := by omega
    refine ev_step (fun _ => spec_l2CmpText.l0.eq_2 ..) (ev_pos (by omega) ?_)
    rw [decide_eq_true (by omega)]
    refine ev_step (fun _ => spec_l2CmpText.j1.eq_2 ..) (ev_pos rfl (ev_pos (by omega) (ev_pos (by omega) (ev_pos (by omega) ?_))))
    rw [bt_at h1, bt_at h2, Y_drop h1, Y_drop h2, w64n h1 hs]
    have a1 := ((Y s)[i]'(by rw [Y_len]; exact h1)).toNat_lt
    have a2 := ((Y t)[i]'(by rw [Y_len]; exact h2)).toNat_lt
    rw [w64 (x := (((Y s)[i]'(by rw [Y_len]; exact h1)).toNat : Int)) (by omega) (by omega), w64 (x := (((Y t)[i]'(by rw [Y_len]; exact h2)).toNat : Int)) (by omega) (by omega)]
    unfold cmpL
    refine ev_ite (fun h3 => ?_) (fun h3 => ?_)
    · rw [if_pos h3]
      exact ih
    · rw [if_neg h3]
      refine ev_bind (ev_eq (cmpNum_spec _ _)) ?_
      unfold cn
      by_cases h4 : (((Y s)[i]'(by rw [Y_len]; exact h1)).toNat : Int) < (((Y t)[i]'(by rw [Y_len]; exact h2)).toNat : Int)
      · rw [if_pos h4, if_pos h4]
        exact ev_now _
      · rw [if_neg h4, if_neg h4, if_pos (by omega)]
        exact ev_now _

end Go.Proofs.Ythgeohdpjedhnaa.U
namespace Go.Proofs.Ythgeohdpjedhnaa.U
open Go.RowKit Go.Proofs.Ythgeohdpjedhnaa.Pr Go.Proofs.YthgeohdpjedhnaaW.PrintWords Go.Proofs.YthgeohdpjedhnaaW.PrintLast Go.Proofs.YthgeohdpjedhnaaW.PrintMore
set_option linter.unusedVariables false
set_option linter.unusedSimpArgs false
def before (p : Option (List UInt8)) (l : List UInt8) : Bool := match p with
  | none => true
  | some q => decide (cmpL q l < 0)
/-- Labels that are good, each name behind the one ahead. -/
def riseL (p : Option (List UInt8)) : List S86 → Bool
  | [] => true
  | x :: xs => nameL (Y x.f0) && valL (Y x.f1) && before p (Y x.f0) && riseL (some (Y x.f0)) xs
def goodL (l : List S86) : Bool := decide (l.length ≤ 20) && riseL none l
def ptL (l : List S86) (i : Nat) : Option (List UInt8) := if i = 0 then none else some (Y (rd_T86 l ((i - 1 : Nat) : Int)).f0)
/-- Texts that fit. -/
def fitL (l : List S86) : Prop := l.length ≤ 9223372036854775807 ∧ ∀ x ∈ l, x.f0.size ≤ 9223372036854775807 ∧ x.f1.size ≤ 9223372036854775807
theorem goodLabels_impl_l (l : List S86) (hf : fitL l) : Ev (fun k => impl_GoodLabels.l0 k l l (l.length : Int) 0) (riseL none l) := by
  obtain ⟨hl, hw⟩ := hf
  have hrd : ∀ (i : Nat) (h : i < l.length), rd_T86 l (i : Int) = l[i] := fun i h => getD_lt h
  refine up_ind l.length (fun i => Ev (fun k => impl_GoodLabels.l0 k l l (l.length : Int) (i : Int)) (riseL (ptL l i) (l.drop i))) ?_ ?_ 0 (by omega)
  · rw [List.drop_length]
    exact ev_step (fun _ => impl_GoodLabels.l0.eq_2 ..) (ev_neg (by omega) (ev_now _))
  · intro i h ih
    have hp : ptL l (i + 1) = some (Y l[i].f0) := by unfold ptL; rw [if_neg (by omega), Nat.add_sub_cancel, hrd i h]
    rw [hp] at ih
    obtain ⟨w1, w2⟩ := hw l[i] (List.getElem_mem h)
    have wi : wrap64 ((i : Int) + 1) = ((i + 1 : Nat) : Int) := w64n h hl
    refine ev_step (fun _ => impl_GoodLabels.l0.eq_2 ..) (ev_pos (by omega) (ev_pos (by omega) (ev_pos (by omega) ?_)))
    rw [hrd i h, List.drop_eq_getElem_cons h]
    simp only [riseL]
    refine ev_bind (name_impl _ w1) (ev_ite (fun h1 => ev_bind (value_impl _ w2) (ev_ite (fun h2 => ?_) (fun h2 => ?_))) (fun h1 => ?_))
    · rw [h1, h2, Bool.true_and, Bool.true_and]
      by_cases hi : i = 0
      · subst hi
        rw [wi]
        exact ev_neg (by omega) ih
      · have wm : wrap64 ((i : Int) - 1) = ((i - 1 : Nat) : Int) := by rw [w64 (by omega) (by omega)]; omega
        have hq : ptL l i = some (Y l[i - 1].f0) := by unfold ptL; rw [if_neg hi, hrd (i - 1) (by omega)]
        obtain ⟨w3, _⟩ := hw l[i - 1] (List.getElem_mem (by omega))
        rw [wm, hrd (i - 1) (by omega), hq, wi]
        refine ev_pos (by omega) (ev_pos (by omega) (ev_pos (by omega) ?_))
        simp only [before]
        rw [Y_eq, Y_eq, less_cmp]
        refine ev_ite (fun h3 => ?_) (fun h3 => ?_)
        · rw [h3, Bool.true_and]
          exact ih
        · rw [Bool.eq_false_iff.2 h3, Bool.false_and]
          exact ev_now _
    · rw [h1, Bool.eq_false_iff.2 h2]
      exact ev_now _
    · rw [Bool.eq_false_iff.2 h1]
      exact ev_now _
theorem goodLabels_impl (l : List S86) (hf : fitL l) : Ev (fun k => impl_GoodLabels.f k l) (goodL l) := by
  unfold impl_GoodLabels.f goodL
  refine ev_ite (fun h => ?_) (fun h => ?_)
  · rw [decide_eq_false (by omega)]
    exact ev_now _
  · rw [decide_eq_true (by omega), Bool.true_and]
    exact goodLabels_impl_l l hf
theorem goodLabels_spec_l (l : List S86) (hf : fitL l) : Ev (fun k => spec_GoodLabels.l0 k l l (l.length : Int) 0) (riseL none l) := by
  obtain ⟨hl, hw⟩ := hf
  have hrd : ∀ (i : Nat) (h : i < l.length), rd_T86 l (i : Int) = l[i] := fun i h => getD_lt h
  refine up_ind l.length (fun i => Ev (fun k => spec_GoodLabels.l0 k l l (l.length : Int) (i : Int)) (riseL (ptL l i) (l.drop i))) ?_ ?_ 0 (by omega)
  · rw [List.drop_length]
    exact ev_step (fun _ => spec_GoodLabels.l0.eq_2 ..) (ev_neg (by omega) (ev_now _))
  · intro i h ih
    have hp : ptL l (i + 1) = some (Y l[i].f0) := by unfold ptL; rw [if_neg (by omega), Nat.add_sub_cancel, hrd i h]
    rw [hp] at ih
    obtain ⟨w1, w2⟩ := hw l[i] (List.getElem_mem h)
    have wi : wrap64 ((i : Int) + 1) = ((i + 1 : Nat) : Int) := w64n h hl
    refine ev_step (fun _ => spec_GoodLabels.l0.eq_2 ..) (ev_pos (by omega) (ev_pos (by omega) (ev_pos (by omega) ?_)))
    rw [hrd i h, List.drop_eq_getElem_cons h]
    simp only [riseL]
    refine ev_bind (name_spec _ w1) (ev_ite (fun h1 => ev_bind (value_spec _ w2) (ev_ite (fun h2 => ?_) (fun h2 => ?_))) (fun h1 => ?_))
    · rw [h1, h2, Bool.true_and, Bool.true_and]
      by_cases hi : i = 0
      · subst hi
        rw [wi]
        exact ev_neg (by omega) ih
      · have wm : wrap64 ((i : Int) - 1) = ((i - 1 : Nat) : Int) := by rw [w64 (by omega) (by omega)]; omega
        have hq : ptL l i = some (Y l[i - 1].f0) := by unfold ptL; rw [if_neg hi, hrd (i - 1) (by omega)]
        obtain ⟨w3, _⟩ := hw l[i - 1] (List.getElem_mem (by omega))
        rw [wm, hrd (i - 1) (by omega), hq, wi]
        refine ev_pos (by omega) (ev_pos (by omega) (ev_pos (by omega) ?_))
        simp only [before]
        refine ev_bind (cmp_spec _ _ w3 w1) (ev_ite (fun h3 => ?_) (fun h3 => ?_))
        · rw [decide_eq_false (by omega), Bool.false_and]
          exact ev_now _
        · rw [decide_eq_true (by omega), Bool.true_and]
          exact ih
    · rw [h1, Bool.eq_false_iff.2 h2]
      exact ev_now _
    · rw [Bool.eq_false_iff.2 h1]
      exact ev_now _
theorem goodLabels_spec (l : List S86) (hf : fitL l) : Ev (fun k => spec_GoodLabels.f k l) (goodL l) := by
  unfold spec_GoodLabels.f goodL
  refine ev_ite (fun h => ?_) (fun h => ?_)
  · rw [decide_eq_false (by omega)]
    exact ev_now _
  · rw [decide_eq_true (by omega), Bool.true_and]
    exact goodLabels_spec_l l hf

end Go.Proofs.Ythgeohdpjedhnaa.U
namespace Go.Proofs.Ythgeohdpjedhnaa.U
open Go.RowKit Go.Proofs.Ythgeohdpjedhnaa.Pr Go.Proofs.YthgeohdpjedhnaaW.PrintWords Go.Proofs.YthgeohdpjedhnaaW.PrintLast Go.Proofs.YthgeohdpjedhnaaW.PrintMore
set_option linter.unusedVariables false
set_option linter.unusedSimpArgs false
def hasL (l : List ByteArray) (s : ByteArray) : Bool := l.any fun y => decide (y.toList = s.toList)
theorem has_spec (l : List ByteArray) (hl : l.length ≤ 1048576) (s : ByteArray) : Ev (fun k => spec_l2Has.f k l s) (hasL l s) := by
  unfold spec_l2Has.f hasL
  refine up_ind l.length (fun i => Ev (fun k => spec_l2Has.l0 k s l (l.length : Int) (i : Int)) ((l.drop i).any fun y => decide (y.toList = s.toList))) ?_ ?_ 0 (by omega)
  · rw [List.drop_length]
    exact ev_step (fun _ => spec_l2Has.l0.eq_2 ..) (ev_neg (by omega) (ev_now _))
  · intro i h ih
    refine ev_step (fun _ => spec_l2Has.l0.eq_2 ..) (ev_pos (by omega) (ev_pos (by omega) (ev_pos (by omega) ?_)))
    rw [rdOf_at h, List.drop_eq_getElem_cons h, List.any_cons, w64n h (by omega)]
    refine ev_ite (fun h1 => ?_) (fun h1 => ?_)
    · rw [decide_eq_true h1]
      exact ev_now _
    · rw [decide_eq_false h1, Bool.false_or]
      exact ih
theorem index_impl (l : List ByteArray) (hl : l.length ≤ 1048576) (s : ByteArray) : ∃ r, Ev (fun k => slices_Index_string_string.f k l s) r ∧ decide (r ≥ 0) = hasL l s := by
  unfold slices_Index_string_string.f hasL
  refine up_ind l.length (fun i => ∃ r, Ev (fun k => slices_Index_string_string.l0 k l s (l.length : Int) (i : Int)) r ∧ decide (r ≥ 0) = ((l.drop i).any fun y => decide (y.toList = s.toList))) ?_ ?_ 0 (by omega)
  · rw [List.drop_length]
    exact ⟨-1, ev_step (fun _ => slices_Index_string_string.l0.eq_2 ..) (ev_neg (by omega) (ev_now _)), rfl⟩
  · intro i h ⟨r, ih, hr⟩
    rw [List.drop_eq_getElem_cons h, List.any_cons]
    by_cases h1 : s.toList = l[i].toList
    · refine ⟨i, ev_step (fun _ => slices_Index_string_string.l0.eq_2 ..) (ev_pos (by omega) (ev_pos (by omega) (ev_pos (by omega) ?_))), ?_⟩
      · rw [rdOf_at h]
        exact ev_pos h1 (ev_now _)
      · rw [decide_eq_true h1.symm, decide_eq_true (by omega), Bool.true_or]
    · refine ⟨r, ev_step (fun _ => slices_Index_string_string.l0.eq_2 ..) (ev_pos (by omega) (ev_pos (by omega) (ev_pos (by omega) ?_))), ?_⟩
      · rw [rdOf_at h, w64n h (by omega)]
        exact ev_neg h1 ih
      · rw [decide_eq_false (show ¬ l[i].toList = s.toList from fun e => h1 e.symm), Bool.false_or]
        exact hr
theorem contains_impl (l : List ByteArray) (hl : l.length ≤ 1048576) (s : ByteArray) : Ev (fun k => slices_Contains_string_string.f k l s) (hasL l s) := by
  obtain ⟨r, h1, h2⟩ := index_impl l hl s
  unfold slices_Contains_string_string.f
  rw [← h2]
  exact ev_bind h1 (ev_now _)
theorem some_spec (l : List S86) (hl : l.length ≤ 1048576) (ns : List ByteArray) (hn : ns.length ≤ 1048576) (b : Bool) : Ev (fun k => spec_l2Some.f k l ns b) (l.filter fun x => hasL ns x.f0 == b) := by
  unfold spec_l2Some.f
  have hrd : ∀ (i : Nat) (h : i < l.length), rd_T86 l (i : Int) = l[i] := fun i h => getD_lt h
  have key := up_ind l.length (fun i => ∀ acc : List S86, acc.length ≤ i → Ev (fun k => spec_l2Some.l0 k ns b acc l (l.length : Int) (i : Int)) (acc ++ (l.drop i).filter fun x => hasL ns x.f0 == b)) ?_ ?_ 0 (by omega) [] (by simp)
  · exact key
  · intro acc ha
    rw [List.drop_length, List.filter_nil, List.append_nil]
    exact ev_step (fun _ => spec_l2Some.l0.eq_2 ..) (ev_neg (by omega) (ev_now _))
  · intro i h ih acc ha
    refine ev_step (fun _ => spec_l2Some.l0.eq_2 ..) (ev_pos (by omega) (ev_pos (by omega) (ev_pos (by omega) ?_)))
    rw [hrd i h, List.drop_eq_getElem_cons h, w64n h (by omega)]
    refine ev_bind (has_spec ns hn _) (ev_ite (fun h1 => ?_) (fun h1 => ?_))
    · refine ev_pos (by omega) ?_
      rw [List.filter_cons_of_pos (p := fun x : S86 => hasL ns x.f0 == b) h1]
      have := ih (acc ++ [l[i]]) (by rw [List.length_append, List.length_singleton]; omega)
      rw [List.append_assoc] at this
      exact this
    · rw [List.filter_cons_of_neg (p := fun x : S86 => hasL ns x.f0 == b) h1]
      exact ih acc (by omega)
theorem filt_at (P : S86 → Option Bool) (p : S86 → Bool) (l : List S86) (hl : l.length ≤ 1048576) (h : ∀ x ∈ l, P x = some (p x)) : ∀ (d k i : Nat) (acc : List S86), i + d = l.length → d < k → acc.length ≤ i → impl_Label.l0 P l k acc (i : Int) = some (acc ++ (l.drop i).filter p) := by
  have hrd : ∀ (i : Nat) (h : i < l.length), rd_T86 l (i : Int) = l[i] := fun i h => getD_lt h
  intro d
  induction d with
  | zero =>
    intro k i acc h1 h2 h3
    obtain ⟨k, rfl⟩ : ∃ m, k = m + 1 := ⟨k - 1, by omega⟩
    simp only [impl_Label.l0]
    rw [if_neg (by omega), List.drop_eq_nil_of_le (by omega), List.filter_nil, List.append_nil]
  | succ d ih =>
    intro k i acc h1 h2 h3
    obtain ⟨k, rfl⟩ : ∃ m, k = m + 1 := ⟨k - 1, by omega⟩
    have hi : i < l.length := by omega
    have hp : P (⟨l[i].f0, l[i].f1⟩ : S86) = some (p l[i]) := h l[i] (List.getElem_mem hi)
    simp only [impl_Label.l0]
    rw [if_pos (by omega), if_pos (by omega), hrd i hi, hp, Option.bind_some, List.drop_eq_getElem_cons hi, w64n hi (by omega)]
    by_cases hq : p l[i] = true
    · rw [if_pos hq, if_pos (by omega), List.filter_cons_of_pos hq, ih k (i + 1) _ (by omega) (by omega) (by rw [List.length_append, List.length_singleton]; omega), List.append_assoc]
      rfl
    · rw [if_neg hq, List.filter_cons_of_neg hq]
      exact ih k (i + 1) acc (by omega) (by omega) (by omega)
theorem ev_all {α : Type} (P : Nat → α → Option Bool) (p : α → Bool) : ∀ l : List α, (∀ x ∈ l, Ev (fun k => P k x) (p x)) → ∃ K, ∀ k, K ≤ k → ∀ x ∈ l, P k x = some (p x) := by
  intro l
  induction l with
  | nil => intro _; exact ⟨0, fun _ _ _ h => by cases h⟩
  | cons y l ih =>
    intro h
    obtain ⟨K, h1⟩ := ih (fun x hx => h x (List.mem_cons_of_mem _ hx))
    obtain ⟨K', h2⟩ := h y (List.mem_cons_self ..)
    refine ⟨max K K', fun k hk x hx => ?_⟩
    rcases List.mem_cons.1 hx with rfl | hx
    · exact h2 k (by omega)
    · exact h1 k (by omega) x hx
theorem filt (P : Nat → S86 → Option Bool) (p : S86 → Bool) (l : List S86) (hl : l.length ≤ 1048576) (h : ∀ x ∈ l, Ev (fun k => P k x) (p x)) : Ev (fun k => impl_Label.f k (P k) l) (l.filter p) := by
  obtain ⟨K, hK⟩ := ev_all P p l h
  refine ⟨max K (l.length + 1), fun k hk => ?_⟩
  exact filt_at (P k) p l hl (hK k (by omega)) l.length k 0 [] (by omega) (by omega) (by simp)
theorem some_len (l : List S86) (p : S86 → Bool) : (l.filter p).length ≤ l.length := List.length_filter_le ..
def someL (l : List S86) (ns : List ByteArray) (b : Bool) : List S86 := if goodL l = true then (if (ns.length : Int) > 1000 then [] else l.filter fun x => hasL ns x.f0 == b) else []
theorem someL_len (l : List S86) (ns : List ByteArray) (b : Bool) : (someL l ns b).length ≤ l.length := by
  unfold someL
  split
  · split
    · simp
    · exact List.length_filter_le ..
  · simp

end Go.Proofs.Ythgeohdpjedhnaa.U
namespace Go.Proofs.Ythgeohdpjedhnaa.U
open Go.RowKit Go.Proofs.Ythgeohdpjedhnaa.Pr Go.Proofs.YthgeohdpjedhnaaW.PrintWords Go.Proofs.YthgeohdpjedhnaaW.PrintLast Go.Proofs.YthgeohdpjedhnaaW.PrintMore
set_option linter.unusedVariables false
set_option linter.unusedSimpArgs false
theorem drop_spec (l : List S86) (hf : fitL l) (hl : l.length ≤ 1048576) (ns : List ByteArray) (hn : ns.length ≤ 1048576) : Ev (fun k => spec_DropLabels.f k l ns) (someL l ns false) := by
  unfold spec_DropLabels.f someL
  refine ev_bind (goodLabels_spec l hf) (ev_ite (fun h => ?_) (fun h => ?_))
  · rw [if_pos h]
    refine ev_ite (fun h1 => ?_) (fun h1 => ?_)
    · rw [if_pos h1]; exact ev_now _
    · rw [if_neg h1]; exact ev_bind (some_spec l hl ns hn false) (ev_now _)
  · rw [if_neg h]; exact ev_now _
theorem drop_impl (l : List S86) (hf : fitL l) (hl : l.length ≤ 1048576) (ns : List ByteArray) (hn : ns.length ≤ 1048576) : Ev (fun k => impl_DropLabels.f k l ns) (someL l ns false) := by
  unfold impl_DropLabels.f someL
  refine ev_bind (goodLabels_impl l hf) (ev_ite (fun h => ?_) (fun h => ?_))
  · rw [if_pos h]
    refine ev_ite (fun h1 => ?_) (fun h1 => ?_)
    · rw [if_pos h1]; exact ev_now _
    · rw [if_neg h1]
      refine ev_bind ?_ (ev_now _)
      unfold impl_drop.f
      exact filt _ _ l hl (fun x _ => by rw [show (hasL ns x.f0 == false) = !hasL ns x.f0 from by cases hasL ns x.f0 <;> rfl]; exact ev_bind (contains_impl ns hn x.f0) (ev_now _))
  · rw [if_neg h]; exact ev_now _

end Go.Proofs.Ythgeohdpjedhnaa.U
namespace Go.Proofs.Ythgeohdpjedhnaa.U
open Go.RowKit Go.Proofs.Ythgeohdpjedhnaa.Pr Go.Proofs.YthgeohdpjedhnaaW.PrintWords Go.Proofs.YthgeohdpjedhnaaW.PrintLast Go.Proofs.YthgeohdpjedhnaaW.PrintMore
set_option linter.unusedVariables false
set_option linter.unusedSimpArgs false
def sm84 (x : S84) : Prop := x.f0.size ≤ 1048576 ∧ x.f1.size ≤ 1048576
def cv84 (x : S84) : S86 := ⟨x.f0, x.f1⟩
theorem toLabel (x : S84) (hx : sm84 x) : Ev (fun _ => laws_toLabel.f x.f0 x.f1) (x.f0, x.f1) := by
  obtain ⟨h0, h1⟩ := hx
  unfold laws_toLabel.f
  exact ev_now _
theorem eqLabel (x : S86) : Ev (fun _ => laws_eqLabel.f x.f0 x.f1 x.f0 x.f1) true := ev_eq (by simp [laws_eqLabel.f])
def sw84 (x : S84) : Prop := (x.f0.size ≤ maxLen) ∧ (x.f1.size ≤ maxLen)
theorem szLabel (x : S84) (c : Int) (h0 : 0 ≤ c) (h1 : c ≤ 1048576) (hw : sw84 x) : ∃ r, Ev (fun _ => laws_szLabel.f x.f0 x.f1 c) r ∧ r ≤ c ∧ (0 ≤ r → sm84 x) := by
  obtain ⟨w0, w1⟩ := hw
  unfold laws_szLabel.f
  simp only [maxLen] at w0
  rw [w64 (x := c - (x.f0.size : Int)) (by omega) (by omega)]
  by_cases n0 : c - (x.f0.size : Int) < 0
  · exact ⟨-1, ev_pos n0 (ev_now _), by omega, fun h => absurd h (by decide)⟩
  · skip
    simp only [maxLen] at w1
    rw [w64 (x := (c - (x.f0.size : Int)) - (x.f1.size : Int)) (by omega) (by omega)]
    by_cases n1 : (c - (x.f0.size : Int)) - (x.f1.size : Int) < 0
    · exact ⟨-1, ev_neg n0 (ev_pos n1 (ev_now _)), by omega, fun h => absurd h (by decide)⟩
    · skip
      exact ⟨_, ev_neg n0 (ev_neg n1 (ev_now _)), by omega, fun _ => ⟨by omega, by omega⟩⟩

end Go.Proofs.Ythgeohdpjedhnaa.U
namespace Go.Proofs.Ythgeohdpjedhnaa.U
open Go.RowKit Go.Proofs.Ythgeohdpjedhnaa.Pr Go.Proofs.YthgeohdpjedhnaaW.PrintWords Go.Proofs.YthgeohdpjedhnaaW.PrintLast Go.Proofs.YthgeohdpjedhnaaW.PrintMore
set_option linter.unusedVariables false
set_option linter.unusedSimpArgs false
theorem markText_l (m : Nat) : ∀ (c : Int) (s : ByteArray), 0 ≤ c → c < 10 ^ m → c ≤ 9223372036854775807 → s.size + m < 1000 → ∃ r, Ev (fun k => laws_markText.l0 k c s) r := by
  induction m with
  | zero =>
    intro c s h0 h1 _ h2
    simp at h1
    have hs : 1 + s.size ≤ 9223372036854775807 := by omega
    exact ⟨_, ev_step (fun _ => laws_markText.l0.eq_2 ..) (ev_neg (by omega) (ev_pos hs (ev_now _)))⟩
  | succ m ih =>
    intro c s h0 h1 h1' h2
    by_cases hc : c > 0
    · rw [Int.pow_succ] at h1
      have e : wrap64 (Int.tdiv c 10) = c / 10 := by rw [Int.tdiv_eq_ediv_of_nonneg h0, w64 (by omega) (by omega)]
      have hz : ∀ x : Int, (strOfNums [x]).size = 1 := fun x => strOfNums_size [x]
      obtain ⟨r, hr⟩ := ih (c / 10) (strOfNums [wrap64 (48 + Int.tmod c 10) % 256] ++ s) (by omega) (by generalize (10 : Int) ^ m = p at h1 ⊢; omega) (by omega) (by rw [ByteArray.size_append, hz]; omega)
      refine ⟨r, ev_step (fun _ => laws_markText.l0.eq_2 ..) (ev_pos hc (ev_some (ev_pos (by rw [hz]; omega) ?_)))⟩
      rw [e]
      exact hr
    · have hs : 1 + s.size ≤ 9223372036854775807 := by omega
      exact ⟨_, ev_step (fun _ => laws_markText.l0.eq_2 ..) (ev_neg hc (ev_pos hs (ev_now _)))⟩
theorem markText (c : Int) (h0 : 0 < c) (h1 : c ≤ 9223372036854775807) : ∃ r, Ev (fun k => laws_markText.f k c) r := by
  obtain ⟨r, hr⟩ := markText_l 19 c ⟨#[]⟩ (by omega) (Int.lt_of_le_of_lt h1 (by decide)) h1 (by decide)
  refine ⟨r, ?_⟩
  unfold laws_markText.f
  exact ev_neg (by omega) hr

end Go.Proofs.Ythgeohdpjedhnaa.U
namespace Go.Proofs.Ythgeohdpjedhnaa.U
open Go.RowKit Go.Proofs.Ythgeohdpjedhnaa.Pr Go.Proofs.YthgeohdpjedhnaaW.PrintWords Go.Proofs.YthgeohdpjedhnaaW.PrintLast Go.Proofs.YthgeohdpjedhnaaW.PrintMore
set_option linter.unusedVariables false
set_option linter.unusedSimpArgs false
theorem toLabelS (l : List (S84)) (hl : (l.length ≤ 1048576 ∧ ∀ y ∈ l, sm84 y)) : Ev (fun k => laws_toLabelS.f k l) (l.map cv84) := by
  obtain ⟨hl, hs⟩ := hl
  unfold laws_toLabelS.f
  repeat (first | (with_reducible refine ev_pos (by first | omega | rfl | decide) ?_) | (with_reducible refine ev_neg (by first | omega | decide) ?_))
  have key := ev_copy (F := fun k y i => laws_toLabelS.l0 k l y i) cv84 l (List.replicate ((l.length : Int) : Int).toNat z86) (by simp) ?step ?done
  case step =>
    intro i h y r hy hr
    refine ev_step (fun _ => laws_toLabelS.l0.eq_2 ..) ?_
    repeat (first | (with_reducible refine ev_pos (by first | omega | rfl | decide) ?_) | (with_reducible refine ev_neg (by first | omega | decide) ?_))
    rw [(show rd_T84 l (i : Int) = l[i] from getD_lt h)]
    refine ev_bind (toLabel l[i] (hs _ (List.getElem_mem h))) ?_
    repeat (first | (with_reducible refine ev_pos (by first | omega | rfl | decide) ?_) | (with_reducible refine ev_neg (by first | omega | decide) ?_))
    rw [w64n h (by omega), Int.toNat_natCast]
    exact hr
  case done =>
    intro y hy
    refine ev_step (fun _ => laws_toLabelS.l0.eq_2 ..) ?_
    repeat (first | (with_reducible refine ev_pos (by first | omega | rfl | decide) ?_) | (with_reducible refine ev_neg (by first | omega | decide) ?_))
    exact ev_now _
  exact key
theorem eqLabelS (l : List (S86)) (hl : l.length ≤ 1048576) : Ev (fun k => laws_eqLabelS.f k l l) true := by
  unfold laws_eqLabelS.f
  refine ev_pos rfl ?_
  refine up_ind l.length (fun i => Ev (fun k => laws_eqLabelS.l0 k l l (i : Int)) true) ?_ ?_ 0 (by omega)
  · refine ev_step (fun _ => laws_eqLabelS.l0.eq_2 ..) ?_
    refine ev_neg (by omega) ?_
    exact ev_now _
  · intro i h ih
    refine ev_step (fun _ => laws_eqLabelS.l0.eq_2 ..) ?_
    repeat (first | (with_reducible refine ev_pos (by first | omega | rfl | decide) ?_) | (with_reducible refine ev_neg (by first | omega | decide) ?_))
    refine ev_bind (eqLabel _) ?_
    refine ev_pos rfl ?_
    rw [w64n h (by omega)]
    exact ih
theorem szLabelS (l : List (S84)) (c : Int) (h0 : 0 ≤ c) (h1 : c ≤ 1048576) (hl : l.length ≤ maxLen) (hw : ∀ x ∈ l, sw84 x) : ∃ r, Ev (fun k => laws_szLabelS.f k l c) r ∧ r ≤ c ∧ (0 ≤ r → (l.length ≤ 1048576 ∧ ∀ y ∈ l, sm84 y)) := by
  simp only [maxLen] at hl
  unfold laws_szLabelS.f
  rw [w64 (x := c - (l.length : Int)) (by omega) (by omega)]
  by_cases hn : c - (l.length : Int) < 0
  · exact ⟨-1, ev_pos hn (ev_now _), by omega, fun h => absurd h (by decide)⟩
  · have key := up_ind l.length (fun i => ∀ c : Int, 0 ≤ c → c ≤ 1048576 → ∃ r, Ev (fun k => laws_szLabelS.l0 k l c (i : Int)) r ∧ r ≤ c ∧ (0 ≤ r → ∀ j (h : j < l.length), i ≤ j → sm84 l[j])) ?d ?s 0 (by omega) (c - (l.length : Int)) (by omega) (by omega)
    case d => exact fun c h0 h1 => ⟨c, ev_step (fun _ => laws_szLabelS.l0.eq_2 ..) (ev_neg (by omega) (ev_now _)), Int.le_refl _, fun _ j h hj => by omega⟩
    case s =>
      intro i h ih c h0 h1
      obtain ⟨r1, e1, hr1, hs1⟩ := szLabel l[i] c h0 h1 (hw _ (List.getElem_mem h))
      by_cases hr : r1 < 0
      · refine ⟨-1, ev_step (fun _ => laws_szLabelS.l0.eq_2 ..) ?_, by omega, fun h => absurd h (by decide)⟩
        repeat (first | (with_reducible refine ev_pos (by first | omega | rfl | decide) ?_) | (with_reducible refine ev_neg (by first | omega | decide) ?_))
        rw [(show rd_T84 l (i : Int) = l[i] from getD_lt h)]
        exact ev_bind e1 (ev_pos hr (ev_now _))
      · obtain ⟨r, e, hrc, hs⟩ := ih (r1) (by omega) (by omega)
        refine ⟨r, ev_step (fun _ => laws_szLabelS.l0.eq_2 ..) ?_, by omega, fun h2 j hj hij => ?_⟩
        · repeat (first | (with_reducible refine ev_pos (by first | omega | rfl | decide) ?_) | (with_reducible refine ev_neg (by first | omega | decide) ?_))
          rw [(show rd_T84 l (i : Int) = l[i] from getD_lt h)]
          refine ev_bind e1 (ev_neg hr ?_)
          rw [w64n h (by omega)]
          exact e
        · by_cases ej : j = i
          · subst ej
            exact hs1 (by omega)
          · exact hs h2 j hj (by omega)
    obtain ⟨r, e, hrc, hs⟩ := key
    refine ⟨r, ev_neg hn e, by omega, fun h => ⟨by omega, fun y hy => ?_⟩⟩
    obtain ⟨j, hj, rfl⟩ := List.getElem_of_mem hy
    exact hs h j hj (by omega)
theorem markLabelS (l : List (S86)) (hl : l.length ≤ 1048576) (c : Int) (h0 : 0 < c) (h1 : c ≤ 4611686018427387904) : ∃ y c', Ev (fun k => laws_markLabelS.f k l c) (c', y) ∧ Ev (fun k => laws_heldLabelS.f k y c) c' ∧ c ≤ c' ∧ c' ≤ c + 2 * l.length := by
  have key := up_ind l.length (fun i => ∀ (x : List (S86)) (c : Int), x.length = l.length → 0 < c → c + 2 * (l.length - i : Nat) ≤ 9000000000000000000 → ∃ y c', Ev (fun k => laws_markLabelS.l0 k x c (i : Int)) (c', y) ∧ Ev (fun k => laws_heldLabelS.l0 k y c (i : Int)) c' ∧ y.length = l.length ∧ (∀ j, j < i → y[j]? = x[j]?) ∧ c ≤ c' ∧ c' ≤ c + 2 * (l.length - i : Nat)) ?d ?s 0 (by omega) l c rfl h0 (by omega)
  case d =>
    intro x c hx h0 h1
    refine ⟨x, c, ev_step (fun _ => laws_markLabelS.l0.eq_2 ..) (ev_neg (by omega) (ev_now _)), ev_step (fun _ => laws_heldLabelS.l0.eq_2 ..) (ev_neg (by omega) (ev_now _)), hx, fun _ _ => rfl, by omega, by omega⟩
  case s =>
    intro i h ih x c hx h0 h1
    obtain ⟨s0, es0⟩ := markText (c) (by omega) (by omega)
    obtain ⟨s1, es1⟩ := markText (c + 1) (by omega) (by omega)
    have w1 : wrap64 (c + 1) = c + 1 := (w64 (by omega) (by omega)).trans (by omega)
    have w2 : wrap64 ((c + 1) + 1) = c + 2 := (w64 (by omega) (by omega)).trans (by omega)
    have wi : wrap64 ((i : Int) + 1) = ((i + 1 : Nat) : Int) := w64n h (by omega)
    have hset : ∀ a, rd_T86 (x.set i a) (i : Int) = a := fun a => by rw [show rd_T86 (x.set i a) (i : Int) = (x.set i a)[i]'(by simp; omega) from getD_lt (by simp; omega)]; simp
    obtain ⟨y, c', e1, e2, hy, hj, q1, q2⟩ := ih (x.set i ⟨s0, s1⟩) (c + 2) (by simp [hx]) (by omega) (by omega)
    refine ⟨y, c', ev_step (fun _ => laws_markLabelS.l0.eq_2 ..) ?_, ev_step (fun _ => laws_heldLabelS.l0.eq_2 ..) ?_, hy, fun j h' => ?_, by omega, by omega⟩
    · simp only [w1, w2, wi, Int.toNat_natCast]
      repeat (first | (with_reducible refine ev_pos (by first | omega | rfl | decide) ?_) | (with_reducible refine ev_some ?_) | (with_reducible refine ev_bind es0 ?_) | (with_reducible refine ev_bind es1 ?_))
      simp only [hset, List.set_set]
      exact e1
    · have ey : rd_T86 y (i : Int) = ⟨s0, s1⟩ := by
        have := hj i (by omega)
        rw [List.getElem?_set_self (by omega), List.getElem?_eq_getElem (by omega)] at this
        rw [show rd_T86 y (i : Int) = y[i]'(by omega) from getD_lt (by omega)]
        exact Option.some.inj this
      simp only [ey, w1, w2, wi]
      repeat (first | (with_reducible refine ev_pos (by first | omega | rfl | decide) ?_) | (with_reducible refine ev_bind es0 ?_) | (with_reducible refine ev_bind es1 ?_))
      exact e2
    · rw [hj j (by omega), List.getElem?_set_ne (by omega)]
  obtain ⟨y, c', e1, e2, _, _, q1, q2⟩ := key
  exact ⟨y, c', e1, e2, q1, by omega⟩

end Go.Proofs.Ythgeohdpjedhnaa.U
namespace Go.Proofs.Ythgeohdpjedhnaa.U
open Go.RowKit Go.Proofs.Ythgeohdpjedhnaa.Pr Go.Proofs.YthgeohdpjedhnaaW.PrintWords Go.Proofs.YthgeohdpjedhnaaW.PrintLast Go.Proofs.YthgeohdpjedhnaaW.PrintMore
set_option linter.unusedVariables false
set_option linter.unusedSimpArgs false
theorem toStringS (l : List ByteArray) (hl : (l.length ≤ 1048576 ∧ ∀ y ∈ l, y.size ≤ 1048576)) : Ev (fun k => laws_toStringS.f k l) (l) := by
  obtain ⟨hl, hs⟩ := hl
  unfold laws_toStringS.f
  repeat (first | (with_reducible refine ev_pos (by first | omega | rfl | decide) ?_) | (with_reducible refine ev_neg (by first | omega | decide) ?_))
  have key := ev_copy (F := fun k y i => laws_toStringS.l0 k l y i) (fun x => x) l (List.replicate ((l.length : Int) : Int).toNat (⟨#[]⟩ : ByteArray)) (by simp) ?step ?done
  case step =>
    intro i h y r hy hr
    refine ev_step (fun _ => laws_toStringS.l0.eq_2 ..) ?_
    repeat (first | (with_reducible refine ev_pos (by first | omega | rfl | decide) ?_) | (with_reducible refine ev_neg (by first | omega | decide) ?_))
    rw [rdOf_at h, w64n h (by omega), Int.toNat_natCast]
    exact hr
  case done =>
    intro y hy
    refine ev_step (fun _ => laws_toStringS.l0.eq_2 ..) ?_
    repeat (first | (with_reducible refine ev_pos (by first | omega | rfl | decide) ?_) | (with_reducible refine ev_neg (by first | omega | decide) ?_))
    exact ev_now _
  simpa using key
theorem eqStringS (l : List ByteArray) (hl : l.length ≤ 1048576) : Ev (fun k => laws_eqStringS.f k l l) true := by
  unfold laws_eqStringS.f
  refine ev_pos rfl ?_
  refine up_ind l.length (fun i => Ev (fun k => laws_eqStringS.l0 k l l (i : Int)) true) ?_ ?_ 0 (by omega)
  · refine ev_step (fun _ => laws_eqStringS.l0.eq_2 ..) ?_
    refine ev_neg (by omega) ?_
    exact ev_now _
  · intro i h ih
    refine ev_step (fun _ => laws_eqStringS.l0.eq_2 ..) ?_
    repeat (first | (with_reducible refine ev_pos (by first | omega | rfl | decide) ?_) | (with_reducible refine ev_neg (by first | omega | decide) ?_))
    rw [w64n h (by omega)]
    exact ih
theorem szStringS (l : List ByteArray) (c : Int) (h0 : 0 ≤ c) (h1 : c ≤ 1048576) (hl : l.length ≤ maxLen) (hw : ∀ x ∈ l, x.size ≤ maxLen) : ∃ r, Ev (fun k => laws_szStringS.f k l c) r ∧ r ≤ c ∧ (0 ≤ r → (l.length ≤ 1048576 ∧ ∀ y ∈ l, y.size ≤ 1048576)) := by
  simp only [maxLen] at hl
  unfold laws_szStringS.f
  rw [w64 (x := c - (l.length : Int)) (by omega) (by omega)]
  by_cases hn : c - (l.length : Int) < 0
  · exact ⟨-1, ev_pos hn (ev_now _), by omega, fun h => absurd h (by decide)⟩
  · have key := up_ind l.length (fun i => ∀ c : Int, 0 ≤ c → c ≤ 1048576 → ∃ r, Ev (fun k => laws_szStringS.l0 k l c (i : Int)) r ∧ r ≤ c ∧ (0 ≤ r → ∀ j (h : j < l.length), i ≤ j → l[j].size ≤ 1048576)) ?d ?s 0 (by omega) (c - (l.length : Int)) (by omega) (by omega)
    case d => exact fun c h0 h1 => ⟨c, ev_step (fun _ => laws_szStringS.l0.eq_2 ..) (ev_neg (by omega) (ev_now _)), Int.le_refl _, fun _ j h hj => by omega⟩
    case s =>
      intro i h ih c h0 h1
      have hz := hw _ (List.getElem_mem h)
      simp only [maxLen] at hz
      by_cases hr : c - (l[i].size : Int) < 0
      · refine ⟨-1, ev_step (fun _ => laws_szStringS.l0.eq_2 ..) ?_, by omega, fun h => absurd h (by decide)⟩
        repeat (first | (with_reducible refine ev_pos (by first | omega | rfl | decide) ?_) | (with_reducible refine ev_neg (by first | omega | decide) ?_))
        rw [rdOf_at h, w64 (x := c - (l[i].size : Int)) (by omega) (by omega)]
        exact ev_pos hr (ev_now _)
      · obtain ⟨r, e, hrc, hs⟩ := ih (c - (l[i].size : Int)) (by omega) (by omega)
        refine ⟨r, ev_step (fun _ => laws_szStringS.l0.eq_2 ..) ?_, by omega, fun h2 j hj hij => ?_⟩
        · repeat (first | (with_reducible refine ev_pos (by first | omega | rfl | decide) ?_) | (with_reducible refine ev_neg (by first | omega | decide) ?_))
          rw [rdOf_at h, w64 (x := c - (l[i].size : Int)) (by omega) (by omega)]
          refine ev_neg hr ?_
          rw [w64n h (by omega)]
          exact e
        · by_cases ej : j = i
          · subst ej
            omega
          · exact hs h2 j hj (by omega)
    obtain ⟨r, e, hrc, hs⟩ := key
    refine ⟨r, ev_neg hn e, by omega, fun h => ⟨by omega, fun y hy => ?_⟩⟩
    obtain ⟨j, hj, rfl⟩ := List.getElem_of_mem hy
    exact hs h j hj (by omega)
theorem markStringS (l : List ByteArray) (hl : l.length ≤ 1048576) (c : Int) (h0 : 0 < c) (h1 : c ≤ 4611686018427387904) : ∃ y c', Ev (fun k => laws_markStringS.f k l c) (c', y) ∧ Ev (fun k => laws_heldStringS.f k y c) c' ∧ c ≤ c' ∧ c' ≤ c + 1 * l.length := by
  have key := up_ind l.length (fun i => ∀ (x : List ByteArray) (c : Int), x.length = l.length → 0 < c → c + 1 * (l.length - i : Nat) ≤ 9000000000000000000 → ∃ y c', Ev (fun k => laws_markStringS.l0 k x c (i : Int)) (c', y) ∧ Ev (fun k => laws_heldStringS.l0 k y c (i : Int)) c' ∧ y.length = l.length ∧ (∀ j, j < i → y[j]? = x[j]?) ∧ c ≤ c' ∧ c' ≤ c + 1 * (l.length - i : Nat)) ?d ?s 0 (by omega) l c rfl h0 (by omega)
  case d =>
    intro x c hx h0 h1
    refine ⟨x, c, ev_step (fun _ => laws_markStringS.l0.eq_2 ..) (ev_neg (by omega) (ev_now _)), ev_step (fun _ => laws_heldStringS.l0.eq_2 ..) (ev_neg (by omega) (ev_now _)), hx, fun _ _ => rfl, by omega, by omega⟩
  case s =>
    intro i h ih x c hx h0 h1
    obtain ⟨s, es⟩ := markText c h0 (by omega)
    obtain ⟨y, c', e1, e2, hy, hj, q1, q2⟩ := ih (x.set i s) (c + 1) (by simp [hx]) (by omega) (by omega)
    refine ⟨y, c', ev_step (fun _ => laws_markStringS.l0.eq_2 ..) ?_, ev_step (fun _ => laws_heldStringS.l0.eq_2 ..) ?_, hy, fun j h' => ?_, by omega, by omega⟩
    · repeat (first | (with_reducible refine ev_pos (by first | omega | rfl | decide) ?_) | (with_reducible refine ev_neg (by first | omega | decide) ?_))
      refine ev_bind es ?_
      repeat (first | (with_reducible refine ev_pos (by first | omega | rfl | decide) ?_) | (with_reducible refine ev_neg (by first | omega | decide) ?_))
      rw [w64 (x := c + 1) (by omega) (by omega), w64n h (by omega), Int.toNat_natCast]
      exact e1
    · repeat (first | (with_reducible refine ev_pos (by first | omega | rfl | decide) ?_) | (with_reducible refine ev_neg (by first | omega | decide) ?_))
      have ey : rdOf ByteArray.empty y (i : Int) = s := by
        have := hj i (by omega)
        rw [List.getElem?_set_self (by omega), List.getElem?_eq_getElem (by omega)] at this
        rw [rdOf_at (by omega)]
        exact Option.some.inj this
      rw [ey]
      refine ev_bind es (ev_pos rfl ?_)
      rw [w64 (x := c + 1) (by omega) (by omega), w64n h (by omega)]
      exact e2
    · rw [hj j (by omega), List.getElem?_set_ne (by omega)]
  obtain ⟨y, c', e1, e2, _, _, q1, q2⟩ := key
  exact ⟨y, c', e1, e2, q1, by omega⟩

end Go.Proofs.Ythgeohdpjedhnaa.U
namespace Go.Proofs.Ythgeohdpjedhnaa.U
open Go.RowKit Go.Proofs.Ythgeohdpjedhnaa.Pr Go.Proofs.YthgeohdpjedhnaaW.PrintWords Go.Proofs.YthgeohdpjedhnaaW.PrintLast Go.Proofs.YthgeohdpjedhnaaW.PrintMore
set_option linter.unusedVariables false
set_option linter.unusedSimpArgs false
theorem fitL_cv (l : List S84) (h : l.length ≤ 1048576 ∧ ∀ x ∈ l, sm84 x) : fitL (l.map cv84) := by
  refine ⟨by rw [List.length_map]; omega, fun x hx => ?_⟩
  obtain ⟨y, hy, rfl⟩ := List.mem_map.1 hx
  obtain ⟨h1, h2⟩ := h.2 y hy
  exact ⟨by show y.f0.size ≤ _; omega, by show y.f1.size ≤ _; omega⟩

end Go.Proofs.Ythgeohdpjedhnaa.U
