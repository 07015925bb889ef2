/- Plain lemmas over the printed functions, for the law FnExactHashLabels; each theorem states its own conditions. -/
import Derived.Test.YthgeohdpjedhnaaPrx0
import Derived.Test.YthgeohdpjedhnaaPrxg0dd73n1
import Derived.Test.YthgeohdpjedhnaaPrxg47566n1
import Derived.Test.YthgeohdpjedhnaaPrxg5570bn1
import Derived.Test.YthgeohdpjedhnaaPrxg67d2fn1
import Derived.Test.YthgeohdpjedhnaaPrxg798f8n1
import Derived.Test.YthgeohdpjedhnaaPrxg7e704n1
import Derived.Test.YthgeohdpjedhnaaPrxga22e2n1
import Derived.Test.YthgeohdpjedhnaaPrxgaa552n1
import Derived.Test.YthgeohdpjedhnaaPrxgcd579n1
namespace Go.Proofs.Ythgeohdpjedhnaa.U
open Go.RowKit Go.Proofs.Ythgeohdpjedhnaa.Pr Go.Proofs.YthgeohdpjedhnaaW.PrintWords Go.Proofs.YthgeohdpjedhnaaW.PrintLast Go.Proofs.YthgeohdpjedhnaaW.PrintMore
set_option linter.unusedVariables false
set_option linter.unusedSimpArgs false
/-! Words for plain proofs over the printed functions: from some number of rounds on; loops that go up; ranges. -/
theorem w64 {x : Int} (h0 : -9223372036854775808 ≤ x) (h1 : x ≤ 9223372036854775807) : wrap64 x = x := by unfold wrap64; omega
theorem w64n {i n : Nat} (h : i < n) (hn : n ≤ 9223372036854775807) : wrap64 ((i : Int) + 1) = ((i + 1 : Nat) : Int) := by unfold wrap64; omega
theorem wu64 (n : Int) : IntKind.u64.wrap n = n % 18446744073709551616 := by simp [IntKind.wrap, IntKind.bits, IntKind.signed]
theorem bu64 (op : BinOp) (x y : Int) : 0 ≤ bits op .u64 x y ∧ bits op .u64 x y < 18446744073709551616 := by
  unfold bits
  simp only [wu64]
  omega
theorem bu32 (op : BinOp) (x y : Int) : 0 ≤ bits op .u32 x y ∧ bits op .u32 x y < 4294967296 := by
  unfold bits
  simp only [IntKind.wrap_u32]
  omega
theorem or_comm_ (k : IntKind) (x y : Int) : bits .or k x y = bits .or k y x := by
  simp only [bits, BitVec.or_comm]
theorem ev_now {α : Type} (r : α) : Ev (fun _ => some r) r := Ev.now r
theorem ev_eq {α : Type} {g : Option α} {r : α} (h : g = some r) : Ev (fun _ => g) r := ⟨0, fun _ _ => h⟩
theorem ev_pos {α : Type} {c : Prop} [Decidable c] {a b : Nat → Option α} {r : α} (h : c) (e : Ev a r) : Ev (fun k => if c then a k else b k) r := by
  obtain ⟨K, e⟩ := e
  exact ⟨K, fun k hk => (if_pos h).trans (e k hk)⟩
theorem ev_neg {α : Type} {c : Prop} [Decidable c] {a b : Nat → Option α} {r : α} (h : ¬ c) (e : Ev b r) : Ev (fun k => if c then a k else b k) r := by
  obtain ⟨K, e⟩ := e
  exact ⟨K, fun k hk => (if_neg h).trans (e k hk)⟩
theorem ev_ite {α : Type} {c : Prop} [Decidable c] {a b : Nat → Option α} {r : α} (h : c → Ev a r) (h' : ¬ c → Ev b r) : Ev (fun k => if c then a k else b k) r := by
  by_cases hc : c
  · exact ev_pos hc (h hc)
  · exact ev_neg hc (h' hc)
theorem ev_bind {α β : Type} {g : Nat → Option α} {f : Nat → α → Option β} {a : α} {r : β} (h : Ev g a) (k : Ev (fun n => f n a) r) : Ev (fun n => (g n).bind (f n)) r := Ev.bind h k
theorem ev_some {α β : Type} {f : Nat → α → Option β} {a : α} {r : β} (k : Ev (fun n => f n a) r) : Ev (fun n => (some a).bind (f n)) r := Ev.bind (Ev.now a) k
theorem ev_step {α : Type} {g f : Nat → Option α} {r : α} (h : ∀ k, g (k + 1) = f k) (k : Ev f r) : Ev g r := Ev.step h k
theorem ev_one {α : Type} {g : Nat → Option α} {r q : α} (h : Ev g r) (h' : Ev g q) : r = q := by
  obtain ⟨K, h⟩ := h
  obtain ⟨K', h'⟩ := h'
  exact Option.some.inj ((h (max K K') (Nat.le_max_left _ _)).symm.trans (h' _ (Nat.le_max_right _ _)))
/-- What holds at the end and goes down a round, holds at each round. -/
theorem up_ind (n : Nat) (Q : Nat → Prop) (done : Q n) (step : ∀ i, i < n → Q (i + 1) → Q i) : ∀ i, i ≤ n → Q i := by
  have key : ∀ d i, i + d = n → Q i := by
    intro d
    induction d with
    | zero =>
      intro i h
      have e : i = n := by omega
      rw [e]
      exact done
    | succ d ih => intro i h; exact step i (by omega) (ih (i + 1) (by omega))
  exact fun i h => key (n - i) i (by omega)
theorem getD_lt {α : Type} {l : List α} {d : α} {i : Nat} (h : i < l.length) : l.getD ((i : Int).toNat) d = l[i] := by
  rw [Int.toNat_natCast, List.getD_eq_getElem?_getD, List.getElem?_eq_getElem h]
  rfl
theorem rd_at {l : List Int} {i : Nat} (h : i < l.length) : rd l (i : Int) = l[i] := getD_lt h
theorem rdOf_at {α : Type} {d : α} {l : List α} {i : Nat} (h : i < l.length) : rdOf d l (i : Int) = l[i] := getD_lt h
/-- A loop that writes a row anew, element by element. -/
theorem ev_copy {α β : Type} (F : Nat → List β → Int → Option (List β)) (cv : α → β) (l : List α) (x : List β) (hx : x.length = l.length)
    (step : ∀ (i : Nat) (h : i < l.length) (y r : List β), y.length = l.length → Ev (fun k => F k (y.set i (cv l[i])) ((i + 1 : Nat) : Int)) r → Ev (fun k => F k y (i : Int)) r)
    (done : ∀ y : List β, y.length = l.length → Ev (fun k => F k y (l.length : Int)) y) : Ev (fun k => F k x 0) (l.map cv) := by
  refine up_ind l.length (fun i => ∀ y : List β, y.length = l.length → (∀ j, j < i → y[j]? = (l.map cv)[j]?) → Ev (fun k => F k y (i : Int)) (l.map cv)) ?_ ?_ 0 (by omega) x hx (fun j hj => by omega)
  · intro y hy h
    have e : y = l.map cv := by
      apply List.ext_getElem?
      intro j
      by_cases hj : j < l.length
      · exact h j hj
      · rw [List.getElem?_eq_none (by omega), List.getElem?_eq_none (by simp; omega)]
    have d := done y hy
    rw [e] at d ⊢
    exact d
  · intro i hi ih y hy h
    refine step i hi y _ hy (ih _ (by simp [hy]) (fun j hj => ?_))
    by_cases e : j = i
    · subst e
      rw [List.getElem?_set_self (by omega), List.getElem?_map, List.getElem?_eq_getElem hi]
      rfl
    · rw [List.getElem?_set_ne (Ne.symm e)]
      exact h j (by omega)

end Go.Proofs.Ythgeohdpjedhnaa.U
namespace Go.Proofs.Ythgeohdpjedhnaa.U
open Go.RowKit Go.Proofs.Ythgeohdpjedhnaa.Pr Go.Proofs.YthgeohdpjedhnaaW.PrintWords Go.Proofs.YthgeohdpjedhnaaW.PrintLast Go.Proofs.YthgeohdpjedhnaaW.PrintMore
set_option linter.unusedVariables false
set_option linter.unusedSimpArgs false
/-- A string's bytes. -/
abbrev Y (s : ByteArray) : List UInt8 := s.data.toList
theorem Y_eq {s : ByteArray} : s.toList = Y s := ByteArray.toList_eq s
theorem Y_len (s : ByteArray) : (Y s).length = s.size := Array.length_toList
theorem Y_inj {s t : ByteArray} (h : Y s = Y t) : s = t := by
  cases s
  cases t
  congr
  exact Array.toList_inj.1 h
theorem bt_at {s : ByteArray} {i : Nat} (h : i < s.size) : bt s (i : Int) = (((Y s)[i]'(by rw [Y_len]; exact h)).toNat : Int) := by
  unfold bt
  rw [dif_pos (show ((i : Int)).toNat < s.size from by omega)]
  rfl
theorem Y_drop {s : ByteArray} {i : Nat} (h : i < s.size) : (Y s).drop i = (Y s)[i]'(by rw [Y_len]; exact h) :: (Y s).drop (i + 1) := List.drop_eq_getElem_cons _
theorem Y_drop_end (s : ByteArray) : (Y s).drop s.size = [] := by rw [← Y_len, List.drop_length]
def digC (c : UInt8) : Bool := decide (48 ≤ (c.toNat : Int)) && decide ((c.toNat : Int) ≤ 57)
def letC (c : UInt8) : Bool := decide (97 ≤ (c.toNat : Int)) && decide ((c.toNat : Int) ≤ 122) || decide (65 ≤ (c.toNat : Int)) && decide ((c.toNat : Int) ≤ 90)
def wordC (c : UInt8) : Bool := letC c || digC c || decide ((c.toNat : Int) = 95)
def prC (c : UInt8) : Bool := decide (32 ≤ (c.toNat : Int)) && decide ((c.toNat : Int) ≤ 126)
/-- A name: at most 40 letters, digits and _, no digit first. -/
def nameL (l : List UInt8) : Bool := decide (1 ≤ l.length) && decide (l.length ≤ 40) && !(l.head?.any digC) && l.all wordC
def prL (n : Nat) (l : List UInt8) : Bool := decide (l.length ≤ n) && l.all prC
def valL (l : List UInt8) : Bool := decide (1 ≤ l.length) && prL 100 l
/-- How two rows of bytes stand to each other. -/
def cmpL : List UInt8 → List UInt8 → Int
  | [], [] => 0
  | [], _ :: _ => -1
  | _ :: _, [] => 1
  | a :: l, b :: m => if (a.toNat : Int) = (b.toNat : Int) then cmpL l m else if (a.toNat : Int) < (b.toNat : Int) then -1 else 1

end Go.Proofs.Ythgeohdpjedhnaa.U
namespace Go.Proofs.Ythgeohdpjedhnaa.U
open Go.RowKit Go.Proofs.Ythgeohdpjedhnaa.Pr Go.Proofs.YthgeohdpjedhnaaW.PrintWords Go.Proofs.YthgeohdpjedhnaaW.PrintLast Go.Proofs.YthgeohdpjedhnaaW.PrintMore
set_option linter.unusedVariables false
set_option linter.unusedSimpArgs false
theorem digit_impl (c : UInt8) : impl_digitByte.f (c.toNat : Int) = some (digC c) := by
  unfold impl_digitByte.f digC
  by_cases h : (c.toNat : Int) ≥ 48
  · rw [if_pos h, decide_eq_true (show 48 ≤ (c.toNat : Int) from h), Bool.true_and]
  · rw [if_neg h, decide_eq_false (show ¬ 48 ≤ (c.toNat : Int) from h), Bool.false_and]
theorem digit_spec (c : UInt8) : spec_l2Digit.f (c.toNat : Int) = some (digC c) := by
  unfold spec_l2Digit.f digC
  by_cases h : (c.toNat : Int) ≥ 48
  · rw [if_pos h, decide_eq_true (show 48 ≤ (c.toNat : Int) from h), Bool.true_and]
  · rw [if_neg h, decide_eq_false (show ¬ 48 ≤ (c.toNat : Int) from h), Bool.false_and]
theorem letter_impl (c : UInt8) : impl_letterByte.f (c.toNat : Int) = some (letC c) := by
  unfold impl_letterByte.f letC
  by_cases h : (c.toNat : Int) ≥ 97 <;> by_cases h1 : (c.toNat : Int) ≤ 122 <;> by_cases h2 : (c.toNat : Int) ≥ 65 <;> by_cases h3 : (c.toNat : Int) ≤ 90 <;> simp [h, h1, h2, h3] <;> omega
theorem letter_spec (c : UInt8) : spec_l2Letter.f (c.toNat : Int) = some (letC c) := by
  unfold spec_l2Letter.f letC
  by_cases h : (c.toNat : Int) ≥ 97 <;> by_cases h1 : (c.toNat : Int) ≤ 122 <;> by_cases h2 : (c.toNat : Int) ≥ 65 <;> by_cases h3 : (c.toNat : Int) ≤ 90 <;> simp [h, h1, h2, h3] <;> omega
theorem word_impl (c : UInt8) : impl_wordByte.f (c.toNat : Int) = some (wordC c) := by
  unfold impl_wordByte.f wordC
  rw [letter_impl, digit_impl]
  cases letC c <;> cases digC c <;> simp <;> rfl
theorem printed_spec (s : ByteArray) (hs : s.size ≤ 9223372036854775807) : Ev (fun k => spec_l2Printed.f k s) ((Y s).all prC) := by
  refine up_ind s.size (fun i => Ev (fun k => spec_l2Printed.l0 k s (i : Int)) (((Y s).drop i).all prC)) ?_ ?_ 0 (by omega)
  · rw [Y_drop_end]
    exact ev_step (fun _ => spec_l2Printed.l0.eq_2 ..) (ev_neg (by omega) (ev_now _))
  · intro i h ih
    refine ev_step (fun _ => spec_l2Printed.l0.eq_2 ..) (ev_pos (by omega) (ev_pos (by omega) ?_))
    rw [bt_at h, Y_drop h, List.all_cons, w64n h hs]
    unfold prC
    refine ev_ite (fun h1 => ?_) (fun h1 => ev_ite (fun h2 => ?_) (fun h2 => ?_))
    · rw [decide_eq_false (by omega)]
      exact ev_now _
    · rw [decide_eq_false (show ¬ _ ≤ (126 : Int) from by omega), Bool.and_false, Bool.false_and]
      exact ev_now _
    · rw [decide_eq_true (by omega), decide_eq_true (by omega)]
      exact ih
theorem printed_impl (s : ByteArray) (hs : s.size ≤ 9223372036854775807) (n : Nat) : Ev (fun k => impl_printed.f k s (n : Int)) (prL n (Y s)) := by
  unfold impl_printed.f prL
  rw [Y_len]
  refine ev_ite (fun h => ?_) (fun h => ?_)
  · rw [decide_eq_false (by omega)]
    exact ev_now _
  · rw [decide_eq_true (by omega), Bool.true_and]
    refine up_ind s.size (fun i => Ev (fun k => impl_printed.l0 k s (s.size : Int) (i : Int)) (((Y s).drop i).all prC)) ?_ ?_ 0 (by omega)
    · rw [Y_drop_end]
      exact ev_step (fun _ => impl_printed.l0.eq_2 ..) (ev_neg (by omega) (ev_now _))
    · intro i h ih
      refine ev_step (fun _ => impl_printed.l0.eq_2 ..) (ev_pos (by omega) (ev_pos (by omega) (ev_pos (by omega) ?_)))
      rw [bt_at h, Y_drop h, List.all_cons, w64n h hs]
      unfold prC
      refine ev_ite (fun h1 => ?_) (fun h1 => ev_ite (fun h2 => ?_) (fun h2 => ?_))
      · rw [decide_eq_false (by omega)]
        exact ev_now _
      · rw [decide_eq_false (show ¬ _ ≤ (126 : Int) from by omega), Bool.and_false, Bool.false_and]
        exact ev_now _
      · rw [decide_eq_true (by omega), decide_eq_true (by omega)]
        exact ih
theorem value_spec (s : ByteArray) (hs : s.size ≤ 9223372036854775807) : Ev (fun k => spec_l2Value.f k s) (valL (Y s)) := by
  unfold spec_l2Value.f valL prL
  rw [Y_len]
  refine ev_ite (fun h => ev_ite (fun h1 => ?_) (fun h1 => ?_)) (fun h => ?_)
  · rw [decide_eq_true (by omega), decide_eq_true (by omega), Bool.true_and, Bool.true_and]
    exact ev_bind (printed_spec s hs) (ev_now _)
  · rw [decide_eq_false (show ¬ s.size ≤ 100 from by omega), Bool.false_and, Bool.and_false]
    exact ev_now _
  · rw [decide_eq_false (by omega), Bool.false_and]
    exact ev_now _
theorem value_impl (s : ByteArray) (hs : s.size ≤ 9223372036854775807) : Ev (fun k => impl_isValue.f k s) (valL (Y s)) := by
  unfold impl_isValue.f valL
  rw [Y_eq, ]
  refine ev_ite (fun h => ?_) (fun h => ?_)
  · rw [h]
    exact ev_now _
  · have : 1 ≤ (Y s).length := by
      cases e : Y s with
      | nil => exact absurd e h
      | cons a l => simp
    rw [decide_eq_true this, Bool.true_and]
    exact ev_bind (printed_impl s hs 100) (ev_now _)
theorem name_loop_impl (s : ByteArray) (hs : s.size ≤ 9223372036854775807) : Ev (fun k => impl_isName.l0 k s (s.size : Int) 0) ((Y s).all wordC) := by
  refine up_ind s.size (fun i => Ev (fun k => impl_isName.l0 k s (s.size : Int) (i : Int)) (((Y s).drop i).all wordC)) ?_ ?_ 0 (by omega)
  · rw [Y_drop_end]
    exact ev_step (fun _ => impl_isName.l0.eq_2 ..) (ev_neg (by omega) (ev_now _))
  · intro i h ih
    refine ev_step (fun _ => impl_isName.l0.eq_2 ..) (ev_pos (by omega) (ev_pos (by omega) (ev_pos (by omega) ?_)))
    rw [bt_at h, Y_drop h, List.all_cons, w64n h hs]
    refine ev_bind (ev_eq (word_impl _)) (ev_ite (fun h1 => ?_) (fun h1 => ?_))
    · rw [h1]
      exact ih
    · rw [Bool.eq_false_iff.2 h1]
      exact ev_now _
theorem name_loop_spec (s : ByteArray) (hs : s.size ≤ 9223372036854775807) : Ev (fun k => spec_l2Name.l0 k s 0) ((Y s).all wordC) := by
  refine up_ind s.size (fun i => Ev (fun k => spec_l2Name.l0 k s (i : Int)) (((Y s).drop i).all wordC)) ?_ ?_ 0 (by omega)
  · rw [Y_drop_end]
    exact ev_step (fun _ => spec_l2Name.l0.eq_2 ..) (ev_neg (by omega) (ev_now _))
  · intro i h ih
    refine ev_step (fun _ => spec_l2Name.l0.eq_2 ..) (ev_pos (by omega) (ev_pos (by omega) ?_))
    rw [bt_at h, Y_drop h, List.all_cons, w64n h hs]
    unfold wordC
    refine ev_bind (ev_eq (letter_spec _)) (ev_ite (fun h1 => ?_) (fun h1 => ev_bind (ev_eq (digit_spec _)) (ev_ite (fun h2 => ?_) (fun h2 => ev_ite (fun h3 => ?_) (fun h3 => ?_)))))
    · rw [h1]
      exact ih
    · rw [h2, Bool.or_true]
      exact ih
    · rw [decide_eq_true h3, Bool.or_true]
      exact ih
    · rw [Bool.eq_false_iff.2 h1, Bool.eq_false_iff.2 h2, decide_eq_false h3]
      exact ev_now _
theorem name_impl (s : ByteArray) (hs : s.size ≤ 9223372036854775807) : Ev (fun k => impl_isName.f k s) (nameL (Y s)) := by
  unfold impl_isName.f nameL
  rw [Y_eq]
  refine ev_ite (fun h => ?_) (fun h => ?_)
  · rw [h]
    exact ev_step (fun _ => impl_isName.j0.eq_2 ..) (ev_pos rfl (ev_now _))
  · have hl : 1 ≤ (Y s).length := by
      cases e : Y s with
      | nil => exact absurd e h
      | cons a l => simp
    rw [decide_eq_true hl, Y_len, Bool.true_and]
    rw [Y_len] at hl
    refine ev_ite (fun h1 => ?_) (fun h1 => ev_pos (by omega) ?_)
    · rw [decide_eq_false (by omega)]
      exact ev_step (fun _ => impl_isName.j0.eq_2 ..) (ev_pos rfl (ev_now _))
    · rw [decide_eq_true (by omega), Bool.true_and]
      have e0 := bt_at (s := s) (i := 0) (by omega)
      have eh : (Y s).head? = some ((Y s)[0]'(by rw [Y_len]; omega)) := by rw [List.head?_eq_getElem?, List.getElem?_eq_getElem]
      rw [show bt s 0 = bt s ((0 : Nat) : Int) from rfl, e0, eh]
      refine ev_bind (ev_eq (digit_impl _)) (ev_step (fun _ => impl_isName.j0.eq_2 ..) (ev_ite (fun h2 => ?_) (fun h2 => ?_)))
      · rw [Option.any_some, h2]
        exact ev_now _
      · rw [Option.any_some, Bool.eq_false_iff.2 h2]
        exact name_loop_impl s hs
theorem name_spec (s : ByteArray) (hs : s.size ≤ 9223372036854775807) : Ev (fun k => spec_l2Name.f k s) (nameL (Y s)) := by
  unfold spec_l2Name.f nameL
  rw [Y_len]
  refine ev_ite (fun h => ?_) (fun h => ?_)
  · rw [decide_eq_false (by omega)]
    exact ev_step (fun _ => spec_l2Name.j0.eq_2 ..) (ev_pos rfl (ev_now _))
  · rw [decide_eq_true (by omega), Bool.true_and]
    refine ev_ite (fun h1 => ?_) (fun h1 => ev_pos (by omega) ?_)
    · rw [decide_eq_false (by omega)]
      exact ev_step (fun _ => spec_l2Name.j0.eq_2 ..) (ev_pos rfl (ev_now _))
    · rw [decide_eq_true (by omega), Bool.true_and]
      have e0 := bt_at (s := s) (i := 0) (by omega)
      have eh : (Y s).head? = some ((Y s)[0]'(by rw [Y_len]; omega)) := by rw [List.head?_eq_getElem?, List.getElem?_eq_getElem]
      rw [show bt s 0 = bt s ((0 : Nat) : Int) from rfl, e0, eh]
      refine ev_bind (ev_eq (digit_spec _)) (ev_step (fun _ => spec_l2Name.j0.eq_2 ..) (ev_ite (fun h2 => ?_) (fun h2 => ?_)))
      · rw [Option.any_some, h2]
        exact ev_now _
      · rw [Option.any_some, Bool.eq_false_iff.2 h2]
        exact name_loop_spec s hs

end Go.Proofs.Ythgeohdpjedhnaa.U
namespace Go.Proofs.Ythgeohdpjedhnaa.U
open Go.RowKit Go.Proofs.Ythgeohdpjedhnaa.Pr Go.Proofs.YthgeohdpjedhnaaW.PrintWords Go.Proofs.YthgeohdpjedhnaaW.PrintLast Go.Proofs.YthgeohdpjedhnaaW.PrintMore
set_option linter.unusedVariables false
set_option linter.unusedSimpArgs false
def cn (a b : Int) : Int := if a < b then -1 else if a > b then 1 else 0
theorem cmpNum_spec (a b : Int) : spec_l2CmpNum.f a b = some (cn a b) := by
  unfold spec_l2CmpNum.f cn
  by_cases h : a < b
  · rw [if_pos h, if_pos h]
  · rw [if_neg h, if_neg h]
    by_cases h' : a > b
    · rw [if_pos h', if_pos h']
    · rw [if_neg h', if_neg h']
theorem less_cmp : ∀ a b : List UInt8, Op.bytesLess a b = decide (cmpL a b < 0)
  | [], [] => rfl
  | [], _ :: _ => rfl
  | _ :: _, [] => rfl
  | a :: l, b :: m => by
    unfold Op.bytesLess cmpL
    rw [less_cmp l m]
    by_cases e : (a.toNat : Int) = (b.toNat : Int)
    · have : a = b := UInt8.toNat_inj.1 (by omega)
      subst this
      simp
    · have hne : (a == b) = false := by
        rw [beq_eq_false_iff_ne]
        rintro rfl
        exact e rfl
      rw [if_neg e, hne, Bool.false_and, Bool.or_false]
      by_cases h : (a.toNat : Int) < (b.toNat : Int)
      · rw [if_pos h]
        have : a < b := UInt8.lt_iff_toNat_lt.2 (by omega)
        simp [this]
      · rw [if_neg h]
        have : ¬ a < b := fun h' => h (by have := UInt8.lt_iff_toNat_lt.1 h'; omega)
        simp [this]
theorem cmp_spec (s t : ByteArray) (hs : s.size ≤ 9223372036854775807) (ht : t.size ≤ 9223372036854775807) : Ev (fun k => spec_l2CmpText.f k s t) (cmpL (Y s) (Y t)) := by
  refine up_ind (min s.size t.size) (fun i => Ev (fun k => spec_l2CmpText.l0 k s t (i : Int)) (cmpL ((Y s).drop i) ((Y t).drop i))) ?_ ?_ 0 (by omega)
  · generalize hm : min s.size t.size = m
    rcases Nat.lt_or_ge m s.size with h | h
    · have e : m = t.size := by omega
      refine ev_step (fun _ => spec_l2CmpText.l0.eq_2 ..) (ev_pos (by omega) ?_)
      rw [decide_eq_false (by omega)]
      refine ev_step (fun _ => spec_l2CmpText.j1.eq_2 ..) (ev_neg (by decide) (ev_bind (ev_eq (cmpNum_spec _ _)) ?_))
      rw [Y_drop h, show List.drop m (Y t) = [] from by rw [e, Y_drop_end]]
      unfold cn cmpL
      rw [if_neg (by omega), if_pos (by omega)]
      exact ev_now _
    · have e : m = s.size := by omega
      refine ev_step (fun _ => spec_l2CmpText.l0.eq_2 ..) (ev_neg (by omega) ?_)
      refine ev_step (fun _ => spec_l2CmpText.j1.eq_2 ..) (ev_neg (by decide) (ev_bind (ev_eq (cmpNum_spec _ _)) ?_))
      rw [e, Y_drop_end]
      by_cases h2 : s.size < t.size
      · rw [Y_drop h2]
        unfold cn cmpL
        rw [if_pos (by omega)]
        exact ev_now _
      · have e2 : s.size = t.size := by omega
        rw [e2, Y_drop_end]
        unfold cn cmpL
        rw [if_neg (by omega), if_neg (by omega)]
        exact ev_now _
  · intro i h ih
    have h1 : i < s.size := by omega
    have h2 : i < t.size := by omega
    refine ev_step (fun _ => spec_l2CmpText.l0.eq_2 ..) (ev_pos (by omega) ?_)
    rw [decide_eq_true (by omega)]
    refine ev_step (fun _ => spec_l2CmpText.j1.eq_2 ..) (ev_pos rfl (ev_pos (by omega) (ev_pos (by omega) (ev_pos (by omega) ?_))))
    rw [bt_at h1, bt_at h2, Y_drop h1, Y_drop h2, w64n h1 hs]
    have a1 := ((Y s)[i]'(by rw [Y_len]; exact h1)).toNat_lt
    have a2 := ((Y t)[i]'(by rw [Y_len]; exact h2)).toNat_lt
    rw [w64 (x := (((Y s)[i]'(by rw [Y_len]; exact h1)).toNat : Int)) (by omega) (by omega), w64 (x := (((Y t)[i]'(by rw [Y_len]; exact h2)).toNat : Int)) (by omega) (by omega)]
    unfold cmpL
    refine ev_ite (fun h3 => ?_) (fun h3 => ?_)
    · rw [if_pos h3]
      exact ih
    · rw [if_neg h3]
      refine ev_bind (ev_eq (cmpNum_spec _ _)) ?_
      unfold cn
      by_cases h4 : (((Y s)[i]'(by rw [Y_len]; exact h1)).toNat : Int) < (((Y t)[i]'(by rw [Y_len]; exact h2)).toNat : Int)
      · rw [if_pos h4, if_pos h4]
        exact ev_now _
      · rw [if_neg h4, if_neg h4, if_pos (by omega)]
        exact ev_now _

end Go.Proofs.Ythgeohdpjedhnaa.U
namespace Go.Proofs.Ythgeohdpjedhnaa.U
open Go.RowKit Go.Proofs.Ythgeohdpjedhnaa.Pr Go.Proofs.YthgeohdpjedhnaaW.PrintWords Go.Proofs.YthgeohdpjedhnaaW.PrintLast Go.Proofs.YthgeohdpjedhnaaW.PrintMore
set_option linter.unusedVariables false
set_option linter.unusedSimpArgs false
def before (p : Option (List UInt8)) (l : List UInt8) : Bool := match p with
  | none => true
  | some q => decide (cmpL q l < 0)
/-- Labels that are good, each name behind the one ahead. -/
def riseL (p : Option (List UInt8)) : List S86 → Bool
  | [] => true
  | x :: xs => nameL (Y x.f0) && valL (Y x.f1) && before p (Y x.f0) && riseL (some (Y x.f0)) xs
def goodL (l : List S86) : Bool := decide (l.length ≤ 20) && riseL none l
def ptL (l : List S86) (i : Nat) : Option (List UInt8) := if i = 0 then none else some (Y (rd_T86 l ((i - 1 : Nat) : Int)).f0)
/-- Texts that fit. -/
def fitL (l : List S86) : Prop := l.length ≤ 9223372036854775807 ∧ ∀ x ∈ l, x.f0.size ≤ 9223372036854775807 ∧ x.f1.size ≤ 9223372036854775807
theorem goodLabels_impl_l (l : List S86) (hf : fitL l) : Ev (fun k => impl_GoodLabels.l0 k l l (l.length : Int) 0) (riseL none l) := by
  obtain ⟨hl, hw⟩ := hf
  have hrd : ∀ (i : Nat) (h : i < l.length), rd_T86 l (i : Int) = l[i] := fun i h => getD_lt h
  refine up_ind l.length (fun i => Ev (fun k => impl_GoodLabels.l0 k l l (l.length : Int) (i : Int)) (riseL (ptL l i) (l.drop i))) ?_ ?_ 0 (by omega)
  · rw [List.drop_length]
    exact ev_step (fun _ => impl_GoodLabels.l0.eq_2 ..) (ev_neg (by omega) (ev_now _))
  · intro i h ih
    have hp : ptL l (i + 1) = some (Y l[i].f0) := by unfold ptL; rw [if_neg (by omega), Nat.add_sub_cancel, hrd i h]
    rw [hp] at ih
    obtain ⟨w1, w2⟩ := hw l[i] (List.getElem_mem h)
    have wi : wrap64 ((i : Int) + 1) = ((i + 1 : Nat) : Int) := w64n h hl
    refine ev_step (fun _ => impl_GoodLabels.l0.eq_2 ..) (ev_pos (by omega) (ev_pos (by omega) (ev_pos (by omega) ?_)))
    rw [hrd i h, List.drop_eq_getElem_cons h]
    simp only [riseL]
    refine ev_bind (name_impl _ w1) (ev_ite (fun h1 => ev_bind (value_impl _ w2) (ev_ite (fun h2 => ?_) (fun h2 => ?_))) (fun h1 => ?_))
    · rw [h1, h2, Bool.true_and, Bool.true_and]
      by_cases hi : i = 0
      · subst hi
        rw [wi]
        exact ev_neg (by omega) ih
      · have wm : wrap64 ((i : Int) - 1) = ((i - 1 : Nat) : Int) := by rw [w64 (by omega) (by omega)]; omega
        have hq : ptL l i = some (Y l[i - 1].f0) := by unfold ptL; rw [if_neg hi, hrd (i - 1) (by omega)]
        obtain ⟨w3, _⟩ := hw l[i - 1] (List.getElem_mem (by omega))
        rw [wm, hrd (i - 1) (by omega), hq, wi]
        refine ev_pos (by omega) (ev_pos (by omega) (ev_pos (by omega) ?_))
        simp only [before]
        rw [Y_eq, Y_eq, less_cmp]
        refine ev_ite (fun h3 => ?_) (fun h3 => ?_)
        · rw [h3, Bool.true_and]
          exact ih
        · rw [Bool.eq_false_iff.2 h3, Bool.false_and]
          exact ev_now _
    · rw [h1, Bool.eq_false_iff.2 h2]
      exact ev_now _
    · rw [Bool.eq_false_iff.2 h1]
      exact ev_now _
theorem goodLabels_impl (l : List S86) (hf : fitL l) : Ev (fun k => impl_GoodLabels.f k l) (goodL l) := by
  unfold impl_GoodLabels.f goodL
  refine ev_ite (fun h => ?_) (fun h => ?_)
  · rw [decide_eq_false (by omega)]
    exact ev_now _
  · rw [decide_eq_true (by omega), Bool.true_and]
    exact goodLabels_impl_l l hf
theorem goodLabels_spec_l (l : List S86) (hf : fitL l) : Ev (fun k => spec_GoodLabels.l0 k l l (l.length : Int) 0) (riseL none l) := by
  obtain ⟨hl, hw⟩ := hf
  have hrd : ∀ (i : Nat) (h : i < l.length), rd_T86 l (i : Int) = l[i] := fun i h => getD_lt h
  refine up_ind l.length (fun i => Ev (fun k => spec_GoodLabels.l0 k l l (l.length : Int) (i : Int)) (riseL (ptL l i) (l.drop i))) ?_ ?_ 0 (by omega)
  · rw [List.drop_length]
    exact ev_step (fun _ => spec_GoodLabels.l0.eq_2 ..) (ev_neg (by omega) (ev_now _))
  · intro i h ih
    have hp : ptL l (i + 1) = some (Y l[i].f0) := by unfold ptL; rw [if_neg (by omega), Nat.add_sub_cancel, hrd i h]
    rw [hp] at ih
    obtain ⟨w1, w2⟩ := hw l[i] (List.getElem_mem h)
    have wi : wrap64 ((i : Int) + 1) = ((i + 1 : Nat) : Int) := w64n h hl
    refine ev_step (fun _ => spec_GoodLabels.l0.eq_2 ..) (ev_pos (by omega) (ev_pos (by omega) (ev_pos (by omega) ?_)))
    rw [hrd i h, List.drop_eq_getElem_cons h]
    simp only [riseL]
    refine ev_bind (name_spec _ w1) (ev_ite (fun h1 => ev_bind (value_spec _ w2) (ev_ite (fun h2 => ?_) (fun h2 => ?_))) (fun h1 => ?_))
    · rw [h1, h2, Bool.true_and, Bool.true_and]
      by_cases hi : i = 0
      · subst hi
        rw [wi]
        exact ev_neg (by omega) ih
      · have wm : wrap64 ((i : Int) - 1) = ((i - 1 : Nat) : Int) := by rw [w64 (by omega) (by omega)]; omega
        have hq : ptL l i = some (Y l[i - 1].f0) := by unfold ptL; rw [if_neg hi, hrd (i - 1) (by omega)]
        obtain ⟨w3, _⟩ := hw l[i - 1] (List.getElem_mem (by omega))
        rw [wm, hrd (i - 1) (by omega), hq, wi]
        refine ev_pos (by omega) (ev_pos (by omega) (ev_pos (by omega) ?_))
        simp only [before]
        refine ev_bind (cmp_spec _ _ w3 w1) (ev_ite (fun h3 => ?_) (fun h3 => ?_))
        · rw [decide_eq_false (by omega), Bool.false_and]
          exact ev_now _
        · rw [decide_eq_true (by omega), Bool.true_and]
          exact ih
    · rw [h1, Bool.eq_false_iff.2 h2]
      exact ev_now _
    · rw [Bool.eq_false_iff.2 h1]
      exact ev_now _
theorem goodLabels_spec (l : List S86) (hf : fitL l) : Ev (fun k => spec_GoodLabels.f k l) (goodL l) := by
  unfold spec_GoodLabels.f goodL
  refine ev_ite (fun h => ?_) (fun h => ?_)
  · rw [decide_eq_false (by omega)]
    exact ev_now _
  · rw [decide_eq_true (by omega), Bool.true_and]
    exact goodLabels_spec_l l hf

end Go.Proofs.Ythgeohdpjedhnaa.U
namespace Go.Proofs.Ythgeohdpjedhnaa.U
open Go.RowKit Go.Proofs.Ythgeohdpjedhnaa.Pr Go.Proofs.YthgeohdpjedhnaaW.PrintWords Go.Proofs.YthgeohdpjedhnaaW.PrintLast Go.Proofs.YthgeohdpjedhnaaW.PrintMore
set_option linter.unusedVariables false
set_option linter.unusedSimpArgs false
/-- The text of some bytes. -/
def bs (l : List UInt8) : ByteArray := ⟨l.toArray⟩
theorem Y_bs (l : List UInt8) : Y (bs l) = l := by simp [bs]
theorem bs_Y (s : ByteArray) : bs (Y s) = s := Y_inj (Y_bs _)
theorem bs_size (l : List UInt8) : (bs l).size = l.length := by rw [← Y_len, Y_bs]
theorem Y_app (a b : ByteArray) : Y (a ++ b) = Y a ++ Y b := by simp [ByteArray.data_append]
theorem bs_app (a b : List UInt8) : bs a ++ bs b = bs (a ++ b) := Y_inj (by rw [Y_app, Y_bs, Y_bs, Y_bs])
def ints (l : List UInt8) : List Int := l.map fun c => (c.toNat : Int)
theorem ints_len (l : List UInt8) : (ints l).length = l.length := List.length_map ..
theorem ints_two (l : List UInt8) (c : UInt8) : ints l ++ [92] ++ [(c.toNat : Int)] = ints (l ++ [92, c]) := by simp [ints]
theorem ints_one (l : List UInt8) (c : UInt8) : ints l ++ [(c.toNat : Int)] = ints (l ++ [c]) := by simp [ints]
theorem strOf_ints (l : List UInt8) : strOfNums (ints l) = bs l := by
  unfold strOfNums ints bs
  rw [List.map_map]
  congr 2
  rw [show ((fun n => UInt8.ofNat n.toNat) ∘ fun (c : UInt8) => (c.toNat : Int)) = id from by funext c; simp, List.map_id]
def esc (c : UInt8) : List UInt8 := if (c.toNat : Int) = 34 ∨ (c.toNat : Int) = 92 then [92, c] else [c]
/-- A text in quotes: a quote and a backslash stand behind a backslash. -/
def quoteL (l : List UInt8) : List UInt8 := 34 :: (l.flatMap esc ++ [34])
theorem esc_len (c : UInt8) : (esc c).length ≤ 2 := by unfold esc; split <;> simp
theorem escs_len : ∀ l : List UInt8, (l.flatMap esc).length ≤ 2 * l.length := by
  intro l
  induction l with
  | nil => simp
  | cons c l ih => have := esc_len c; rw [List.flatMap_cons, List.length_append, List.length_cons]; omega
theorem quoteL_len (l : List UInt8) : (quoteL l).length ≤ 2 * l.length + 2 := by
  have := escs_len l
  unfold quoteL
  simp only [List.length_cons, List.length_append, List.length_nil]
  omega
theorem quote_spec (s : ByteArray) (hs : s.size ≤ 1048576) : Ev (fun k => spec_l2Quoted.f k s) (bs (quoteL (Y s))) := by
  unfold spec_l2Quoted.f
  have key := up_ind s.size (fun i => ∀ acc : List UInt8, acc.length ≤ 2 * i + 1 → Ev (fun k => spec_l2Quoted.l0 k s (ints acc) (i : Int)) (bs (acc ++ (((Y s).drop i).flatMap esc ++ [34])))) ?_ ?_ 0 (by omega) [34] (by simp)
  · exact key
  · intro acc ha
    rw [Y_drop_end, List.flatMap_nil, List.nil_append]
    refine ev_step (fun _ => spec_l2Quoted.l0.eq_2 ..) (ev_neg (by omega) (ev_pos (by rw [ints_len]; omega) ?_))
    rw [show ints acc ++ [34] = ints (acc ++ [34]) from by simp [ints], strOf_ints]
    exact ev_now _
  · intro i h ih acc ha
    refine ev_step (fun _ => spec_l2Quoted.l0.eq_2 ..) (ev_pos (by omega) (ev_pos (by omega) ?_))
    rw [bt_at h, Y_drop h, List.flatMap_cons, w64n h (by omega)]
    have two : (((Y s)[i]'(by rw [Y_len]; exact h)).toNat : Int) = 34 ∨ (((Y s)[i]'(by rw [Y_len]; exact h)).toNat : Int) = 92 → Ev (fun k => if (ints acc).length < 140737488355328 then ((some (ints acc ++ [92] : List Int)).bind fun y => (if y.length < 140737488355328 then (spec_l2Quoted.l0 k s (y ++ [(((Y s)[i]'(by rw [Y_len]; exact h)).toNat : Int)]) ((i + 1 : Nat) : Int)) else none)) else none) (bs (acc ++ (esc (Y s)[i] ++ ((Y s).drop (i + 1)).flatMap esc ++ [34]))) := by
      intro hc
      refine ev_pos (by rw [ints_len]; omega) (ev_some (ev_pos (by rw [List.length_append, ints_len, List.length_singleton]; omega) ?_))
      rw [ints_two]
      have := ih (acc ++ [92, (Y s)[i]]) (by rw [List.length_append, List.length_cons, List.length_singleton]; omega)
      rw [show esc _ = _ from if_pos hc]
      simpa only [List.append_assoc] using this
    refine ev_ite (fun h1 => two (Or.inl h1)) (fun h1 => ev_ite (fun h2 => two (Or.inr h2)) (fun h2 => ev_pos (by rw [ints_len]; omega) ?_))
    rw [ints_one]
    have := ih (acc ++ [(Y s)[i]]) (by rw [List.length_append, List.length_singleton]; omega)
    rw [show esc _ = _ from if_neg (by rintro (e | e) <;> contradiction)]
    simpa only [List.append_assoc] using this
theorem quote_impl (s : ByteArray) (hs : s.size ≤ 1048576) : Ev (fun k => impl_quote.f k s) (bs (quoteL (Y s))) := by
  unfold impl_quote.f
  have key := up_ind s.size (fun i => ∀ acc : List UInt8, acc.length ≤ 2 * i + 1 → Ev (fun k => impl_quote.l0 k s (ints acc) (s.size : Int) (i : Int)) (bs (acc ++ (((Y s).drop i).flatMap esc ++ [34])))) ?_ ?_ 0 (by omega) [34] (by simp)
  · exact key
  · intro acc ha
    rw [Y_drop_end, List.flatMap_nil, List.nil_append]
    refine ev_step (fun _ => impl_quote.l0.eq_2 ..) (ev_neg (by omega) (ev_pos (by rw [ints_len]; omega) ?_))
    rw [show ints acc ++ [34] = ints (acc ++ [34]) from by simp [ints], strOf_ints]
    exact ev_now _
  · intro i h ih acc ha
    refine ev_step (fun _ => impl_quote.l0.eq_2 ..) (ev_pos (by omega) (ev_pos (by omega) (ev_pos (by omega) ?_)))
    rw [bt_at h, Y_drop h, List.flatMap_cons, w64n h (by omega)]
    have two : (((Y s)[i]'(by rw [Y_len]; exact h)).toNat : Int) = 34 ∨ (((Y s)[i]'(by rw [Y_len]; exact h)).toNat : Int) = 92 → Ev (fun k => if (ints acc).length < 140737488355328 then ((some (ints acc ++ [92] : List Int)).bind fun y => (if y.length < 140737488355328 then (impl_quote.l0 k s (y ++ [(((Y s)[i]'(by rw [Y_len]; exact h)).toNat : Int)]) (s.size : Int) ((i + 1 : Nat) : Int)) else none)) else none) (bs (acc ++ (esc (Y s)[i] ++ ((Y s).drop (i + 1)).flatMap esc ++ [34]))) := by
      intro hc
      refine ev_pos (by rw [ints_len]; omega) (ev_some (ev_pos (by rw [List.length_append, ints_len, List.length_singleton]; omega) ?_))
      rw [ints_two]
      have := ih (acc ++ [92, (Y s)[i]]) (by rw [List.length_append, List.length_cons, List.length_singleton]; omega)
      rw [show esc _ = _ from if_pos hc]
      simpa only [List.append_assoc] using this
    refine ev_ite (fun h1 => two (Or.inl h1)) (fun h1 => ev_ite (fun h2 => two (Or.inr h2)) (fun h2 => ev_pos (by rw [ints_len]; omega) ?_))
    rw [ints_one]
    have := ih (acc ++ [(Y s)[i]]) (by rw [List.length_append, List.length_singleton]; omega)
    rw [show esc _ = _ from if_neg (by rintro (e | e) <;> contradiction)]
    simpa only [List.append_assoc] using this

end Go.Proofs.Ythgeohdpjedhnaa.U
namespace Go.Proofs.Ythgeohdpjedhnaa.U
open Go.RowKit Go.Proofs.Ythgeohdpjedhnaa.Pr Go.Proofs.YthgeohdpjedhnaaW.PrintWords Go.Proofs.YthgeohdpjedhnaaW.PrintLast Go.Proofs.YthgeohdpjedhnaaW.PrintMore
set_option linter.unusedVariables false
set_option linter.unusedSimpArgs false
theorem riseL_all : ∀ (l : List S86) (p : Option (List UInt8)), riseL p l = true → ∀ x ∈ l, nameL (Y x.f0) = true ∧ valL (Y x.f1) = true := by
  intro l
  induction l with
  | nil => intro p _ x hx; cases hx
  | cons y ys ih =>
    intro p h x hx
    simp only [riseL, Bool.and_eq_true] at h
    rcases List.mem_cons.1 hx with rfl | hx
    · exact ⟨h.1.1.1, h.1.1.2⟩
    · exact ih _ h.2 x hx
theorem goodL_all {l : List S86} (h : goodL l = true) : l.length ≤ 20 ∧ ∀ x ∈ l, x.f0.size ≤ 40 ∧ x.f1.size ≤ 100 := by
  unfold goodL at h
  rw [Bool.and_eq_true, decide_eq_true_eq] at h
  refine ⟨h.1, fun x hx => ?_⟩
  obtain ⟨h1, h2⟩ := riseL_all l none h.2 x hx
  simp only [nameL, valL, prL, Bool.and_eq_true, decide_eq_true_eq, Y_len] at h1 h2
  exact ⟨h1.1.1.2, h2.2.1⟩
def itemL (x : S86) : List UInt8 := Y x.f0 ++ 61 :: quoteL (Y x.f1)
theorem itemL_len (x : S86) (h : x.f0.size ≤ 40 ∧ x.f1.size ≤ 100) : (itemL x).length ≤ 300 := by
  have := quoteL_len (Y x.f1)
  unfold itemL
  rw [List.length_append, List.length_cons, Y_len]
  rw [Y_len] at this
  omega
theorem item_eq (x : S86) : x.f0 ++ (⟨#[61]⟩ : ByteArray) ++ bs (quoteL (Y x.f1)) = bs (itemL x) := Y_inj (by rw [Y_app, Y_app, Y_bs, Y_bs]; unfold itemL; rw [List.append_assoc]; rfl)
def tailT : Bool → List S86 → List UInt8
  | _, [] => [125]
  | b, x :: xs => (if b = true then [] else [44]) ++ (itemL x ++ tailT false xs)
/-- Labels' text. -/
def textL (l : List S86) : List UInt8 := 123 :: tailT true l
theorem text_spec_l (l : List S86) (hn : l.length ≤ 20) (hb : ∀ x ∈ l, x.f0.size ≤ 40 ∧ x.f1.size ≤ 100) : Ev (fun k => spec_l2Text.f k l) (bs (textL l)) := by
  unfold spec_l2Text.f
  have hrd : ∀ (i : Nat) (h : i < l.length), rd_T86 l (i : Int) = l[i] := fun i h => getD_lt h
  have key := up_ind l.length (fun i => ∀ acc : List UInt8, acc.length ≤ 400 * i + 1 → Ev (fun k => spec_l2Text.l0 k (bs acc) l (l.length : Int) (i : Int)) (bs (acc ++ tailT (decide (i = 0)) (l.drop i)))) ?_ ?_ 0 (by omega) [123] (by simp)
  · exact key
  · intro acc ha
    rw [List.drop_length]
    refine ev_step (fun _ => spec_l2Text.l0.eq_2 ..) (ev_neg (by omega) (ev_pos (by rw [bs_size]; omega) ?_))
    rw [show (⟨#[125]⟩ : ByteArray) = bs [125] from rfl, bs_app]
    exact ev_now _
  · intro i h ih acc ha
    obtain ⟨b1, b2⟩ := hb l[i] (List.getElem_mem h)
    have ql := quoteL_len (Y l[i].f1)
    rw [Y_len] at ql
    have il := itemL_len l[i] ⟨b1, b2⟩
    refine ev_step (fun _ => spec_l2Text.l0.eq_2 ..) (ev_pos (by omega) (ev_pos (by omega) (ev_pos (by omega) ?_)))
    rw [hrd i h, List.drop_eq_getElem_cons h, w64n h (by omega)]
    refine ev_ite (fun h1 => ?_) (fun h1 => ?_)
    · refine ev_pos (by rw [bs_size]; omega) (ev_pos (by omega) (ev_bind (quote_spec _ (by omega)) (ev_pos (by rw [ByteArray.size_append, bs_size]; show _ + 1 + _ ≤ _; omega) ?_)))
      rw [item_eq, show (⟨#[44]⟩ : ByteArray) = bs [44] from rfl, bs_app, bs_app, bs_size, bs_size]
      refine ev_pos (by rw [List.length_append, List.length_singleton]; omega) ?_
      have := ih (acc ++ [44] ++ itemL l[i]) (by rw [List.length_append, List.length_append, List.length_singleton]; omega)
      rw [decide_eq_false (by omega)] at this ⊢
      simpa [tailT] using this
    · obtain rfl : i = 0 := by omega
      refine ev_pos (by omega) (ev_bind (quote_spec _ (by omega)) (ev_pos (by rw [ByteArray.size_append, bs_size]; show _ + 1 + _ ≤ _; omega) ?_))
      rw [item_eq, bs_app, bs_size, bs_size]
      refine ev_pos (by omega) ?_
      have := ih (acc ++ itemL l[0]) (by rw [List.length_append]; omega)
      rw [decide_eq_false (by omega)] at this
      rw [decide_eq_true rfl]
      simpa [tailT] using this
theorem joinTail_len (B : Nat) : ∀ r : List (List UInt8), (∀ x ∈ r, x.length ≤ B) → (Lib.joinTail [44] r).length ≤ r.length * (B + 1) := by
  intro r
  induction r with
  | nil => intro _; simp [Lib.joinTail]
  | cons x r ih =>
    intro h
    have h1 := ih (fun y hy => h y (List.mem_cons_of_mem _ hy))
    have h2 := h x (List.mem_cons_self ..)
    unfold Lib.joinTail at h1 ⊢
    rw [List.map_cons, List.flatten_cons, List.length_append, List.length_append, List.length_singleton, List.length_cons, Nat.add_mul, Nat.one_mul]
    omega
theorem joinTail_items : ∀ l : List S86, Lib.joinTail [44] (l.map itemL) ++ [125] = tailT false l := by
  intro l
  induction l with
  | nil => rfl
  | cons x l ih =>
    simp only [tailT]
    rw [← ih]
    simp [Lib.joinTail]
theorem join_items (l : List S86) : Lib.join (l.map itemL) [44] ++ [125] = tailT true l := by
  cases l with
  | nil => rfl
  | cons x l =>
    rw [List.map_cons, Lib.join_cons, List.append_assoc, joinTail_items]
    rfl
theorem join_len (l : List S86) (hn : l.length ≤ 20) (hb : ∀ x ∈ l, x.f0.size ≤ 40 ∧ x.f1.size ≤ 100) : (Lib.join (l.map itemL) [44]).length ≤ 6321 := by
  cases l with
  | nil => simp [Lib.join_nil]
  | cons x l =>
    have h1 := joinTail_len 300 (l.map itemL) (fun y hy => by
      obtain ⟨z, hz, rfl⟩ := List.mem_map.1 hy
      exact itemL_len z (hb z (List.mem_cons_of_mem _ hz)))
    have h2 := itemL_len x (hb x (List.mem_cons_self ..))
    rw [List.length_map] at h1
    rw [List.length_cons] at hn
    rw [List.map_cons, Lib.join_cons, List.length_append]
    omega
theorem text_impl_l (l : List S86) (hn : l.length ≤ 20) (hb : ∀ x ∈ l, x.f0.size ≤ 40 ∧ x.f1.size ≤ 100) : Ev (fun k => impl_LabelsText.l0 k [] l (l.length : Int) 0) (bs (textL l)) := by
  have hrd : ∀ (i : Nat) (h : i < l.length), rd_T86 l (i : Int) = l[i] := fun i h => getD_lt h
  have key := up_ind l.length (fun i => Ev (fun k => impl_LabelsText.l0 k ((l.take i).map fun x => bs (itemL x)) l (l.length : Int) (i : Int)) (bs (textL l))) ?_ ?_ 0 (by omega)
  · exact key
  · rw [List.take_length]
    refine ev_step (fun _ => impl_LabelsText.l0.eq_2 ..) (ev_neg (by omega) ?_)
    have e1 : ((l.map fun x => bs (itemL x)).map (·.data.toList)) = l.map itemL := by rw [List.map_map]; exact congrArg (fun f => l.map f) (funext fun x => Y_bs _)
    have e2 := join_len l hn hb
    refine ev_bind (a := bs (Lib.join (l.map itemL) [44])) (ev_eq ?_) ?_
    · unfold strings_Join.f
      rw [e1]
      exact if_pos ⟨by rw [List.length_map]; omega, by show (Lib.join (l.map itemL) [44]).length ≤ _; omega⟩
    · refine ev_pos (by rw [bs_size]; omega) ?_
      rw [show (⟨#[123]⟩ : ByteArray) = bs [123] from rfl, show (⟨#[125]⟩ : ByteArray) = bs [125] from rfl, bs_app, bs_app, bs_size]
      refine ev_pos (by rw [List.length_append, List.length_singleton]; omega) ?_
      rw [List.append_assoc, join_items]
      exact ev_now _
  · intro i h ih
    obtain ⟨b1, b2⟩ := hb l[i] (List.getElem_mem h)
    have ql := quoteL_len (Y l[i].f1)
    rw [Y_len] at ql
    refine ev_step (fun _ => impl_LabelsText.l0.eq_2 ..) (ev_pos (by omega) (ev_pos (by omega) (ev_pos (by omega) ?_)))
    rw [hrd i h, w64n h (by omega)]
    refine ev_pos (by omega) (ev_bind (quote_impl _ (by omega)) (ev_pos (by rw [ByteArray.size_append, bs_size]; show _ + 1 + _ ≤ _; omega) (ev_pos (by rw [List.length_map, List.length_take]; omega) ?_)))
    rw [item_eq]
    rw [List.take_succ_eq_append_getElem h, List.map_append] at ih
    exact ih
def textOf (l : List S86) : ByteArray := if goodL l = true then bs (textL l) else bs []
theorem text_spec (l : List S86) (hf : fitL l) : Ev (fun k => spec_LabelsText.f k l) (textOf l) := by
  unfold spec_LabelsText.f textOf
  refine ev_bind (goodLabels_spec l hf) (ev_ite (fun h => ?_) (fun h => ?_))
  · obtain ⟨h1, h2⟩ := goodL_all h
    rw [if_pos h]
    exact ev_bind (text_spec_l l h1 h2) (ev_now _)
  · rw [if_neg h]
    exact ev_now _
theorem text_impl (l : List S86) (hf : fitL l) : Ev (fun k => impl_LabelsText.f k l) (textOf l) := by
  unfold impl_LabelsText.f textOf
  refine ev_bind (goodLabels_impl l hf) (ev_ite (fun h => ?_) (fun h => ?_))
  · obtain ⟨h1, h2⟩ := goodL_all h
    rw [if_pos h]
    exact text_impl_l l h1 h2
  · rw [if_neg h]
    exact ev_now _

end Go.Proofs.Ythgeohdpjedhnaa.U
namespace Go.Proofs.Ythgeohdpjedhnaa.U
open Go.RowKit Go.Proofs.Ythgeohdpjedhnaa.Pr Go.Proofs.YthgeohdpjedhnaaW.PrintWords Go.Proofs.YthgeohdpjedhnaaW.PrintLast Go.Proofs.YthgeohdpjedhnaaW.PrintMore
set_option linter.unusedVariables false
set_option linter.unusedSimpArgs false
theorem mix_same (k : Nat) : ∀ (x : Int) (xs : List Int) (n i : Int), 0 ≤ x → x < 18446744073709551616 → spec_Mix.l0 k x xs n i = impl_Mix.l0 k x xs n i := by
  induction k with
  | zero => intros; rfl
  | succ k ih =>
    intro x xs n i h0 h1
    simp only [spec_Mix.l0, impl_Mix.l0]
    split
    · split
      · split
        · exact ih _ _ _ _ (bu64 _ _ _).1 (bu64 _ _ _).2
        · rfl
      · rfl
    · rw [Int.tdiv_eq_ediv_of_nonneg h0, wu64]
      congr 2
      omega
theorem mix_ends (xs : List Int) (hn : xs.length ≤ 1048576) (d : Nat) : ∀ (k : Nat) (x : Int) (i : Nat), i + d = xs.length → d < k → ∃ r, impl_Mix.l0 k x xs (xs.length : Int) (i : Int) = some r := by
  induction d with
  | zero =>
    intro k x i h1 h2
    obtain ⟨k, rfl⟩ : ∃ m, k = m + 1 := ⟨k - 1, by omega⟩
    simp only [impl_Mix.l0]
    rw [if_neg (by omega)]
    exact ⟨_, rfl⟩
  | succ d ih =>
    intro k x i h1 h2
    obtain ⟨k, rfl⟩ : ∃ m, k = m + 1 := ⟨k - 1, by omega⟩
    simp only [impl_Mix.l0]
    rw [if_pos (by omega), if_pos (by omega), if_pos (by omega), w64 (by omega) (by omega), show ((i : Int) + 1) = ((i + 1 : Nat) : Int) from by omega]
    exact ih k _ (i + 1) (by omega) (by omega)
theorem mix_both (l : List Int) (hl : l.length ≤ 1048576) : ∃ r, Ev (fun k => impl_Mix.f k l) r ∧ Ev (fun k => spec_Mix.f k l) r := by
  obtain ⟨r, hr⟩ := mix_ends l hl l.length (l.length + 1) 1469598103 0 (by omega) (by omega)
  have e1 : Ev (fun k => impl_Mix.f k l) r := Ev.of (impl_Mix.mono l) (k := l.length + 1) hr
  exact ⟨r, e1, Ev.congr (fun k => mix_same k _ _ _ _ (by omega) (by omega)) e1⟩

end Go.Proofs.Ythgeohdpjedhnaa.U
namespace Go.Proofs.Ythgeohdpjedhnaa.U
open Go.RowKit Go.Proofs.Ythgeohdpjedhnaa.Pr Go.Proofs.YthgeohdpjedhnaaW.PrintWords Go.Proofs.YthgeohdpjedhnaaW.PrintLast Go.Proofs.YthgeohdpjedhnaaW.PrintMore
set_option linter.unusedVariables false
set_option linter.unusedSimpArgs false
theorem textOf_size (l : List S86) : (textOf l).size ≤ 6323 := by
  unfold textOf
  split
  · rename_i h
    obtain ⟨h1, h2⟩ := goodL_all h
    have h3 := join_len l h1 h2
    have h4 := congrArg List.length (join_items l)
    rw [List.length_append, List.length_singleton] at h4
    rw [bs_size]
    unfold textL
    rw [List.length_cons]
    omega
  · rw [bs_size]; simp
theorem hash_two (l : List S86) (hf : fitL l) : ∃ r, Ev (fun k => impl_HashLabels.f k l) r ∧ Ev (fun k => spec_HashLabels.f k l) r := by
  have hs := textOf_size l
  obtain ⟨r, e1, e2⟩ := mix_both (bytesOf (textOf l)) (by rw [bytesOf_length]; omega)
  refine ⟨r, ?_, ?_⟩
  · unfold impl_HashLabels.f
    exact ev_bind (text_impl l hf) (ev_pos (by omega) e1)
  · unfold spec_HashLabels.f
    exact ev_bind (text_spec l hf) (ev_pos (by omega) e2)

end Go.Proofs.Ythgeohdpjedhnaa.U
namespace Go.Proofs.Ythgeohdpjedhnaa.U
open Go.RowKit Go.Proofs.Ythgeohdpjedhnaa.Pr Go.Proofs.YthgeohdpjedhnaaW.PrintWords Go.Proofs.YthgeohdpjedhnaaW.PrintLast Go.Proofs.YthgeohdpjedhnaaW.PrintMore
set_option linter.unusedVariables false
set_option linter.unusedSimpArgs false
def sm84 (x : S84) : Prop := x.f0.size ≤ 1048576 ∧ x.f1.size ≤ 1048576
def cv84 (x : S84) : S86 := ⟨x.f0, x.f1⟩
theorem toLabel (x : S84) (hx : sm84 x) : Ev (fun _ => laws_toLabel.f x.f0 x.f1) (x.f0, x.f1) := by
  obtain ⟨h0, h1⟩ := hx
  unfold laws_toLabel.f
  exact ev_now _
theorem eqLabel (x : S86) : Ev (fun _ => laws_eqLabel.f x.f0 x.f1 x.f0 x.f1) true := ev_eq (by simp [laws_eqLabel.f])
def sw84 (x : S84) : Prop := (x.f0.size ≤ maxLen) ∧ (x.f1.size ≤ maxLen)
theorem szLabel (x : S84) (c : Int) (h0 : 0 ≤ c) (h1 : c ≤ 1048576) (hw : sw84 x) : ∃ r, Ev (fun _ => laws_szLabel.f x.f0 x.f1 c) r ∧ r ≤ c ∧ (0 ≤ r → sm84 x) := by
  obtain ⟨w0, w1⟩ := hw
  unfold laws_szLabel.f
  simp only [maxLen] at w0
  rw [w64 (x := c - (x.f0.size : Int)) (by omega) (by omega)]
  by_cases n0 : c - (x.f0.size : Int) < 0
  · exact ⟨-1, ev_pos n0 (ev_now _), by omega, fun h => absurd h (by decide)⟩
  · skip
    simp only [maxLen] at w1
    rw [w64 (x := (c - (x.f0.size : Int)) - (x.f1.size : Int)) (by omega) (by omega)]
    by_cases n1 : (c - (x.f0.size : Int)) - (x.f1.size : Int) < 0
    · exact ⟨-1, ev_neg n0 (ev_pos n1 (ev_now _)), by omega, fun h => absurd h (by decide)⟩
    · skip
      exact ⟨_, ev_neg n0 (ev_neg n1 (ev_now _)), by omega, fun _ => ⟨by omega, by omega⟩⟩

end Go.Proofs.Ythgeohdpjedhnaa.U
namespace Go.Proofs.Ythgeohdpjedhnaa.U
open Go.RowKit Go.Proofs.Ythgeohdpjedhnaa.Pr Go.Proofs.YthgeohdpjedhnaaW.PrintWords Go.Proofs.YthgeohdpjedhnaaW.PrintLast Go.Proofs.YthgeohdpjedhnaaW.PrintMore
set_option linter.unusedVariables false
set_option linter.unusedSimpArgs false
theorem markText_l (m : Nat) : ∀ (c : Int) (s : ByteArray), 0 ≤ c → c < 10 ^ m → c ≤ 9223372036854775807 → s.size + m < 1000 → ∃ r, Ev (fun k => laws_markText.l0 k c s) r := by
  induction m with
  | zero =>
    intro c s h0 h1 _ h2
    simp at h1
    have hs : 1 + s.size ≤ 9223372036854775807 := by omega
    exact ⟨_, ev_step (fun _ => laws_markText.l0.eq_2 ..) (ev_neg (by omega) (ev_pos hs (ev_now _)))⟩
  | succ m ih =>
    intro c s h0 h1 h1' h2
    by_cases hc : c > 0
    · rw [Int.pow_succ] at h1
      have e : wrap64 (Int.tdiv c 10) = c / 10 := by rw [Int.tdiv_eq_ediv_of_nonneg h0, w64 (by omega) (by omega)]
      have hz : ∀ x : Int, (strOfNums [x]).size = 1 := fun x => strOfNums_size [x]
      obtain ⟨r, hr⟩ := ih (c / 10) (strOfNums [wrap64 (48 + Int.tmod c 10) % 256] ++ s) (by omega) (by generalize (10 : Int) ^ m = p at h1 ⊢; omega) (by omega) (by rw [ByteArray.size_append, hz]; omega)
      refine ⟨r, ev_step (fun _ => laws_markText.l0.eq_2 ..) (ev_pos hc (ev_some (ev_pos (by rw [hz]; omega) ?_)))⟩
      rw [e]
      exact hr
    · have hs : 1 + s.size ≤ 9223372036854775807 := by omega
      exact ⟨_, ev_step (fun _ => laws_markText.l0.eq_2 ..) (ev_neg hc (ev_pos hs (ev_now _)))⟩
theorem markText (c : Int) (h0 : 0 < c) (h1 : c ≤ 9223372036854775807) : ∃ r, Ev (fun k => laws_markText.f k c) r := by
  obtain ⟨r, hr⟩ := markText_l 19 c ⟨#[]⟩ (by omega) (Int.lt_of_le_of_lt h1 (by decide)) h1 (by decide)
  refine ⟨r, ?_⟩
  unfold laws_markText.f
  exact ev_neg (by omega) hr

end Go.Proofs.Ythgeohdpjedhnaa.U
namespace Go.Proofs.Ythgeohdpjedhnaa.U
open Go.RowKit Go.Proofs.Ythgeohdpjedhnaa.Pr Go.Proofs.YthgeohdpjedhnaaW.PrintWords Go.Proofs.YthgeohdpjedhnaaW.PrintLast Go.Proofs.YthgeohdpjedhnaaW.PrintMore
set_option linter.unusedVariables false
set_option linter.unusedSimpArgs false
theorem toLabelS (l : List (S84)) (hl : (l.length ≤ 1048576 ∧ ∀ y ∈ l, sm84 y)) : Ev (fun k => laws_toLabelS.f k l) (l.map cv84) := by
  obtain ⟨hl, hs⟩ := hl
  unfold laws_toLabelS.f
  repeat (first | (with_reducible refine ev_pos (by first | omega | rfl | decide) ?_) | (with_reducible refine ev_neg (by first | omega | decide) ?_))
  have key := ev_copy (F := fun k y i => laws_toLabelS.l0 k l y i) cv84 l (List.replicate ((l.length : Int) : Int).toNat z86) (by simp) ?step ?done
  case step =>
    intro i h y r hy hr
    refine ev_step (fun _ => laws_toLabelS.l0.eq_2 ..) ?_
    repeat (first | (with_reducible refine ev_pos (by first | omega | rfl | decide) ?_) | (with_reducible refine ev_neg (by first | omega | decide) ?_))
    rw [(show rd_T84 l (i : Int) = l[i] from getD_lt h)]
    refine ev_bind (toLabel l[i] (hs _ (List.getElem_mem h))) ?_
    repeat (first | (with_reducible refine ev_pos (by first | omega | rfl | decide) ?_) | (with_reducible refine ev_neg (by first | omega | decide) ?_))
    rw [w64n h (by omega), Int.toNat_natCast]
    exact hr
  case done =>
    intro y hy
    refine ev_step (fun _ => laws_toLabelS.l0.eq_2 ..) ?_
    repeat (first | (with_reducible refine ev_pos (by first | omega | rfl | decide) ?_) | (with_reducible refine ev_neg (by first | omega | decide) ?_))
    exact ev_now _
  exact key
theorem eqLabelS (l : List (S86)) (hl : l.length ≤ 1048576) : Ev (fun k => laws_eqLabelS.f k l l) true := by
  unfold laws_eqLabelS.f
  refine ev_pos rfl ?_
  refine up_ind l.length (fun i => Ev (fun k => laws_eqLabelS.l0 k l l (i : Int)) true) ?_ ?_ 0 (by omega)
  · refine ev_step (fun _ => laws_eqLabelS.l0.eq_2 ..) ?_
    refine ev_neg (by omega) ?_
    exact ev_now _
  · intro i h ih
    refine ev_step (fun _ => laws_eqLabelS.l0.eq_2 ..) ?_
    repeat (first | (with_reducible refine ev_pos (by first | omega | rfl | decide) ?_) | (with_reducible refine ev_neg (by first | omega | decide) ?_))
    refine ev_bind (eqLabel _) ?_
    refine ev_pos rfl ?_
    rw [w64n h (by omega)]
    exact ih
theorem szLabelS (l : List (S84)) (c : Int) (h0 : 0 ≤ c) (h1 : c ≤ 1048576) (hl : l.length ≤ maxLen) (hw : ∀ x ∈ l, sw84 x) : ∃ r, Ev (fun k => laws_szLabelS.f k l c) r ∧ r ≤ c ∧ (0 ≤ r → (l.length ≤ 1048576 ∧ ∀ y ∈ l, sm84 y)) := by
  simp only [maxLen] at hl
  unfold laws_szLabelS.f
  rw [w64 (x := c - (l.length : Int)) (by omega) (by omega)]
  by_cases hn : c - (l.length : Int) < 0
  · exact ⟨-1, ev_pos hn (ev_now _), by omega, fun h => absurd h (by decide)⟩
  · have key := up_ind l.length (fun i => ∀ c : Int, 0 ≤ c → c ≤ 1048576 → ∃ r, Ev (fun k => laws_szLabelS.l0 k l c (i : Int)) r ∧ r ≤ c ∧ (0 ≤ r → ∀ j (h : j < l.length), i ≤ j → sm84 l[j])) ?d ?s 0 (by omega) (c - (l.length : Int)) (by omega) (by omega)
    case d => exact fun c h0 h1 => ⟨c, ev_step (fun _ => laws_szLabelS.l0.eq_2 ..) (ev_neg (by omega) (ev_now _)), Int.le_refl _, fun _ j h hj => by omega⟩
    case s =>
      intro i h ih c h0 h1
      obtain ⟨r1, e1, hr1, hs1⟩ := szLabel l[i] c h0 h1 (hw _ (List.getElem_mem h))
      by_cases hr : r1 < 0
      · refine ⟨-1, ev_step (fun _ => laws_szLabelS.l0.eq_2 ..) ?_, by omega, fun h => absurd h (by decide)⟩
        repeat (first | (with_reducible refine ev_pos (by first | omega | rfl | decide) ?_) | (with_reducible refine ev_neg (by first | omega | decide) ?_))
        rw [(show rd_T84 l (i : Int) = l[i] from getD_lt h)]
        exact ev_bind e1 (ev_pos hr (ev_now _))
      · obtain ⟨r, e, hrc, hs⟩ := ih (r1) (by omega) (by omega)
        refine ⟨r, ev_step (fun _ => laws_szLabelS.l0.eq_2 ..) ?_, by omega, fun h2 j hj hij => ?_⟩
        · repeat (first | (with_reducible refine ev_pos (by first | omega | rfl | decide) ?_) | (with_reducible refine ev_neg (by first | omega | decide) ?_))
          rw [(show rd_T84 l (i : Int) = l[i] from getD_lt h)]
          refine ev_bind e1 (ev_neg hr ?_)
          rw [w64n h (by omega)]
          exact e
        · by_cases ej : j = i
          · subst ej
            exact hs1 (by omega)
          · exact hs h2 j hj (by omega)
    obtain ⟨r, e, hrc, hs⟩ := key
    refine ⟨r, ev_neg hn e, by omega, fun h => ⟨by omega, fun y hy => ?_⟩⟩
    obtain ⟨j, hj, rfl⟩ := List.getElem_of_mem hy
    exact hs h j hj (by omega)
theorem markLabelS (l : List (S86)) (hl : l.length ≤ 1048576) (c : Int) (h0 : 0 < c) (h1 : c ≤ 4611686018427387904) : ∃ y c', Ev (fun k => laws_markLabelS.f k l c) (c', y) ∧ Ev (fun k => laws_heldLabelS.f k y c) c' ∧ c ≤ c' ∧ c' ≤ c + 2 * l.length := by
  have key := up_ind l.length (fun i => ∀ (x : List (S86)) (c : Int), x.length = l.length → 0 < c → c + 2 * (l.length - i : Nat) ≤ 9000000000000000000 → ∃ y c', Ev (fun k => laws_markLabelS.l0 k x c (i : Int)) (c', y) ∧ Ev (fun k => laws_heldLabelS.l0 k y c (i : Int)) c' ∧ y.length = l.length ∧ (∀ j, j < i → y[j]? = x[j]?) ∧ c ≤ c' ∧ c' ≤ c + 2 * (l.length - i : Nat)) ?d ?s 0 (by omega) l c rfl h0 (by omega)
  case d =>
    intro x c hx h0 h1
    refine ⟨x, c, ev_step (fun _ => laws_markLabelS.l0.eq_2 ..) (ev_neg (by omega) (ev_now _)), ev_step (fun _ => laws_heldLabelS.l0.eq_2 ..) (ev_neg (by omega) (ev_now _)), hx, fun _ _ => rfl, by omega, by omega⟩
  case s =>
    intro i h ih x c hx h0 h1
    obtain ⟨s0, es0⟩ := markText (c) (by omega) (by omega)
    obtain ⟨s1, es1⟩ := markText (c + 1) (by omega) (by omega)
    have w1 : wrap64 (c + 1) = c + 1 := (w64 (by omega) (by omega)).trans (by omega)
    have w2 : wrap64 ((c + 1) + 1) = c + 2 := (w64 (by omega) (by omega)).trans (by omega)
    have wi : wrap64 ((i : Int) + 1) = ((i + 1 : Nat) : Int) := w64n h (by omega)
    have hset : ∀ a, rd_T86 (x.set i a) (i : Int) = a := fun a => by rw [show rd_T86 (x.set i a) (i : Int) = (x.set i a)[i]'(by simp; omega) from getD_lt (by simp; omega)]; simp
    obtain ⟨y, c', e1, e2, hy, hj, q1, q2⟩ := ih (x.set i ⟨s0, s1⟩) (c + 2) (by simp [hx]) (by omega) (by omega)
    refine ⟨y, c', ev_step (fun _ => laws_markLabelS.l0.eq_2 ..) ?_, ev_step (fun _ => laws_heldLabelS.l0.eq_2 ..) ?_, hy, fun j h' => ?_, by omega, by omega⟩
    · simp only [w1, w2, wi, Int.toNat_natCast]
      repeat (first | (with_reducible refine ev_pos (by first | omega | rfl | decide) ?_) | (with_reducible refine ev_some ?_) | (with_reducible refine ev_bind es0 ?_) | (with_reducible refine ev_bind es1 ?_))
      simp only [hset, List.set_set]
      exact e1
    · have ey : rd_T86 y (i : Int) = ⟨s0, s1⟩ := by
        have := hj i (by omega)
        rw [List.getElem?_set_self (by omega), List.getElem?_eq_getElem (by omega)] at this
        rw [show rd_T86 y (i : Int) = y[i]'(by omega) from getD_lt (by omega)]
        exact Option.some.inj this
      simp only [ey, w1, w2, wi]
      repeat (first | (with_reducible refine ev_pos (by first | omega | rfl | decide) ?_) | (with_reducible refine ev_bind es0 ?_) | (with_reducible refine ev_bind es1 ?_))
      exact e2
    · rw [hj j (by omega), List.getElem?_set_ne (by omega)]
  obtain ⟨y, c', e1, e2, _, _, q1, q2⟩ := key
  exact ⟨y, c', e1, e2, q1, by omega⟩

end Go.Proofs.Ythgeohdpjedhnaa.U
namespace Go.Proofs.Ythgeohdpjedhnaa.U
open Go.RowKit Go.Proofs.Ythgeohdpjedhnaa.Pr Go.Proofs.YthgeohdpjedhnaaW.PrintWords Go.Proofs.YthgeohdpjedhnaaW.PrintLast Go.Proofs.YthgeohdpjedhnaaW.PrintMore
set_option linter.unusedVariables false
set_option linter.unusedSimpArgs false
theorem fitL_cv (l : List S84) (h : l.length ≤ 1048576 ∧ ∀ x ∈ l, sm84 x) : fitL (l.map cv84) := by
  refine ⟨by rw [List.length_map]; omega, fun x hx => ?_⟩
  obtain ⟨y, hy, rfl⟩ := List.mem_map.1 hx
  obtain ⟨h1, h2⟩ := h.2 y hy
  exact ⟨by show y.f0.size ≤ _; omega, by show y.f1.size ≤ _; omega⟩

end Go.Proofs.Ythgeohdpjedhnaa.U
