/- Plain lemmas over the printed functions, for the law FnExactReadLabels; each theorem states its own conditions. -/
import Derived.Test.YthgeohdpjedhnaaPrx0
import Derived.Test.YthgeohdpjedhnaaPrxg0dd73n1
import Derived.Test.YthgeohdpjedhnaaPrxg47566n1
import Derived.Test.YthgeohdpjedhnaaPrxg5570bn1
import Derived.Test.YthgeohdpjedhnaaPrxg67d2fn1
import Derived.Test.YthgeohdpjedhnaaPrxg6ca49n1
import Derived.Test.YthgeohdpjedhnaaPrxg6ca49n2
import Derived.Test.YthgeohdpjedhnaaPrxg798f8n1
import Derived.Test.YthgeohdpjedhnaaPrxg7e704n1
import Derived.Test.YthgeohdpjedhnaaPrxgaa552n1
import Derived.Test.YthgeohdpjedhnaaPrxgcd579n1
namespace Go.Proofs.Ythgeohdpjedhnaa.U
open Go.RowKit Go.Proofs.Ythgeohdpjedhnaa.Pr Go.Proofs.YthgeohdpjedhnaaW.PrintWords Go.Proofs.YthgeohdpjedhnaaW.PrintLast Go.Proofs.YthgeohdpjedhnaaW.PrintMore
set_option linter.unusedVariables false
set_option linter.unusedSimpArgs false
/-! Words for plain proofs over the printed functions: from some number of rounds on; loops that go up; ranges. -/
theorem w64 {x : Int} (h0 : -9223372036854775808 ≤ x) (h1 : x ≤ 9223372036854775807) : wrap64 x = x := by unfold wrap64; omega
theorem w64n {i n : Nat} (h : i < n) (hn : n ≤ 9223372036854775807) : wrap64 ((i : Int) + 1) = ((i + 1 : Nat) : Int) := by unfold wrap64; omega
theorem wu64 (n : Int) : IntKind.u64.wrap n = n % 18446744073709551616 := by simp [IntKind.wrap, IntKind.bits, IntKind.signed]
theorem bu64 (op : BinOp) (x y : Int) : 0 ≤ bits op .u64 x y ∧ bits op .u64 x y < 18446744073709551616 := by
  unfold bits
  simp only [wu64]
  omega
theorem bu32 (op : BinOp) (x y : Int) : 0 ≤ bits op .u32 x y ∧ bits op .u32 x y < 4294967296 := by
  unfold bits
  simp only [IntKind.wrap_u32]
  omega
theorem or_comm_ (k : IntKind) (x y : Int) : bits .or k x y = bits .or k y x := by
  simp only [bits, BitVec.or_comm]
theorem ev_now {α : Type} (r : α) : Ev (fun _ => some r) r := Ev.now r
theorem ev_eq {α : Type} {g : Option α} {r : α} (h : g = some r) : Ev (fun _ => g) r := ⟨0, fun _ _ => h⟩
theorem ev_pos {α : Type} {c : Prop} [Decidable c] {a b : Nat → Option α} {r : α} (h : c) (e : Ev a r) : Ev (fun k => if c then a k else b k) r := by
  obtain ⟨K, e⟩ := e
  exact ⟨K, fun k hk => (if_pos h).trans (e k hk)⟩
theorem ev_neg {α : Type} {c : Prop} [Decidable c] {a b : Nat → Option α} {r : α} (h : ¬ c) (e : Ev b r) : Ev (fun k => if c then a k else b k) r := by
  obtain ⟨K, e⟩ := e
  exact ⟨K, fun k hk => (if_neg h).trans (e k hk)⟩
theorem ev_ite {α : Type} {c : Prop} [Decidable c] {a b : Nat → Option α} {r : α} (h : c → Ev a r) (h' : ¬ c → Ev b r) : Ev (fun k => if c then a k else b k) r := by
  by_cases hc : c
  · exact ev_pos hc (h hc)
  · exact ev_neg hc (h' hc)
theorem ev_bind {α β : Type} {g : Nat → Option α} {f : Nat → α → Option β} {a : α} {r : β} (h : Ev g a) (k : Ev (fun n => f n a) r) : Ev (fun n => (g n).bind (f n)) r := Ev.bind h k
theorem ev_some {α β : Type} {f : Nat → α → Option β} {a : α} {r : β} (k : Ev (fun n => f n a) r) : Ev (fun n => (some a).bind (f n)) r := Ev.bind (Ev.now a) k
theorem ev_step {α : Type} {g f : Nat → Option α} {r : α} (h : ∀ k, g (k + 1) = f k) (k : Ev f r) : Ev g r := Ev.step h k
theorem ev_one {α : Type} {g : Nat → Option α} {r q : α} (h : Ev g r) (h' : Ev g q) : r = q := by
  obtain ⟨K, h⟩ := h
  obtain ⟨K', h'⟩ := h'
  exact Option.some.inj ((h (max K K') (Nat.le_max_left _ _)).symm.trans (h' _ (Nat.le_max_right _ _)))
/-- What holds at the end and goes down a round, holds at each round. -/
theorem up_ind (n : Nat) (Q : Nat → Prop) (done : Q n) (step : ∀ i, i < n → Q (i + 1) → Q i) : ∀ i, i ≤ n → Q i := by
  have key : ∀ d i, i + d = n → Q i := by
    intro d
    induction d with
    | zero =>
      intro i h
      have e : i = n := by omega
      rw [e]
      exact done
    | succ d ih => intro i h; exact step i (by omega) (ih (i + 1) (by omega))
  exact fun i h => key (n - i) i (by omega)
theorem getD_lt {α : Type} {l : List α} {d : α} {i : Nat} (h : i < l.length) : l.getD ((i : Int).toNat) d = l[i] := by
  rw [Int.toNat_natCast, List.getD_eq_getElem?_getD, List.getElem?_eq_getElem h]
  rfl
theorem rd_at {l : List Int} {i : Nat} (h : i < l.length) : rd l (i : Int) = l[i] := getD_lt h
theorem rdOf_at {α : Type} {d : α} {l : List α} {i : Nat} (h : i < l.length) : rdOf d l (i : Int) = l[i] := getD_lt h
/-- A loop that writes a row anew, element by element. -/
theorem ev_copy {α β : Type} (F : Nat → List β → Int → Option (List β)) (cv : α → β) (l : List α) (x : List β) (hx : x.length = l.length)
    (step : ∀ (i : Nat) (h : i < l.length) (y r : List β), y.length = l.length → Ev (fun k => F k (y.set i (cv l[i])) ((i + 1 : Nat) : Int)) r → Ev (fun k => F k y (i : Int)) r)
    (done : ∀ y : List β, y.length = l.length → Ev (fun k => F k y (l.length : Int)) y) : Ev (fun k => F k x 0) (l.map cv) := by
  refine up_ind l.length (fun i => ∀ y : List β, y.length = l.length → (∀ j, j < i → y[j]? = (l.map cv)[j]?) → Ev (fun k => F k y (i : Int)) (l.map cv)) ?_ ?_ 0 (by omega) x hx (fun j hj => by omega)
  · intro y hy h
    have e : y = l.map cv := by
      apply List.ext_getElem?
      intro j
      by_cases hj : j < l.length
      · exact h j hj
      · rw [List.getElem?_eq_none (by omega), List.getElem?_eq_none (by simp; omega)]
    have d := done y hy
    rw [e] at d ⊢
    exact d
  · intro i hi ih y hy h
    refine step i hi y _ hy (ih _ (by simp [hy]) (fun j hj => ?_))
    by_cases e : j = i
    · subst e
      rw [List.getElem?_set_self (by omega), List.getElem?_map, List.getElem?_eq_getElem hi]
      rfl
    · rw [List.getElem?_set_ne (Ne.symm e)]
      exact h j (by omega)

end Go.Proofs.Ythgeohdpjedhnaa.U
namespace Go.Proofs.Ythgeohdpjedhnaa.U
open Go.RowKit Go.Proofs.Ythgeohdpjedhnaa.Pr Go.Proofs.YthgeohdpjedhnaaW.PrintWords Go.Proofs.YthgeohdpjedhnaaW.PrintLast Go.Proofs.YthgeohdpjedhnaaW.PrintMore
set_option linter.unusedVariables false
set_option linter.unusedSimpArgs false
/-- A string's bytes. -/
abbrev Y (s : ByteArray) : List UInt8 := s.data.toList
theorem Y_eq {s : ByteArray} : s.toList = Y s := ByteArray.toList_eq s
theorem Y_len (s : ByteArray) : (Y s).length = s.size := Array.length_toList
theorem Y_inj {s t : ByteArray} (h : Y s = Y t) : s = t := by
  cases s
  cases t
  congr
  exact Array.toList_inj.1 h
theorem bt_at {s : ByteArray} {i : Nat} (h : i < s.size) : bt s (i : Int) = (((Y s)[i]'(by rw [Y_len]; exact h)).toNat : Int) := by
  unfold bt
  rw [dif_pos (show ((i : Int)).toNat < s.size from by omega)]
  rfl
theorem Y_drop {s : ByteArray} {i : Nat} (h : i < s.size) : (Y s).drop i = (Y s)[i]'(by rw [Y_len]; exact h) :: (Y s).drop (i + 1) := List.drop_eq_getElem_cons _
theorem Y_drop_end (s : ByteArray) : (Y s).drop s.size = [] := by rw [← Y_len, List.drop_length]
def digC (c : UInt8) : Bool := decide (48 ≤ (c.toNat : Int)) && decide ((c.toNat : Int) ≤ 57)
def letC (c : UInt8) : Bool := decide (97 ≤ (c.toNat : Int)) && decide ((c.toNat : Int) ≤ 122) || decide (65 ≤ (c.toNat : Int)) && decide ((c.toNat : Int) ≤ 90)
def wordC (c : UInt8) : Bool := letC c || digC c || decide ((c.toNat : Int) = 95)
def prC (c : UInt8) : Bool := decide (32 ≤ (c.toNat : Int)) && decide ((c.toNat : Int) ≤ 126)
/-- A name: at most 40 letters, digits and _, no digit first. -/
def nameL (l : List UInt8) : Bool := decide (1 ≤ l.length) && decide (l.length ≤ 40) && !(l.head?.any digC) && l.all wordC
def prL (n : Nat) (l : List UInt8) : Bool := decide (l.length ≤ n) && l.all prC
def valL (l : List UInt8) : Bool := decide (1 ≤ l.length) && prL 100 l
/-- How two rows of bytes stand to each other. -/
def cmpL : List UInt8 → List UInt8 → Int
  | [], [] => 0
  | [], _ :: _ => -1
  | _ :: _, [] => 1
  | a :: l, b :: m => if (a.toNat : Int) = (b.toNat : Int) then cmpL l m else if (a.toNat : Int) < (b.toNat : Int) then -1 else 1

end Go.Proofs.Ythgeohdpjedhnaa.U
namespace Go.Proofs.Ythgeohdpjedhnaa.U
open Go.RowKit Go.Proofs.Ythgeohdpjedhnaa.Pr Go.Proofs.YthgeohdpjedhnaaW.PrintWords Go.Proofs.YthgeohdpjedhnaaW.PrintLast Go.Proofs.YthgeohdpjedhnaaW.PrintMore
set_option linter.unusedVariables false
set_option linter.unusedSimpArgs false
theorem digit_impl (c : UInt8) : impl_digitByte.f (c.toNat : Int) = some (digC c) := by
  unfold impl_digitByte.f digC
  by_cases h : (c.toNat : Int) ≥ 48
  · rw [if_pos h, decide_eq_true (show 48 ≤ (c.toNat : Int) from h), Bool.true_and]
  · rw [if_neg h, decide_eq_false (show ¬ 48 ≤ (c.toNat : Int) from h), Bool.false_and]
theorem digit_spec (c : UInt8) : spec_l2Digit.f (c.toNat : Int) = some (digC c) := by
  unfold spec_l2Digit.f digC
  by_cases h : (c.toNat : Int) ≥ 48
  · rw [if_pos h, decide_eq_true (show 48 ≤ (c.toNat : Int) from h), Bool.true_and]
  · rw [if_neg h, decide_eq_false (show ¬ 48 ≤ (c.toNat : Int) from h), Bool.false_and]
theorem letter_impl (c : UInt8) : impl_letterByte.f (c.toNat : Int) = some (letC c) := by
  unfold impl_letterByte.f letC
  by_cases h : (c.toNat : Int) ≥ 97 <;> by_cases h1 : (c.toNat : Int) ≤ 122 <;> by_cases h2 : (c.toNat : Int) ≥ 65 <;> by_cases h3 : (c.toNat : Int) ≤ 90 <;> simp [h, h1, h2, h3] <;> omega
theorem letter_spec (c : UInt8) : spec_l2Letter.f (c.toNat : Int) = some (letC c) := by
  unfold spec_l2Letter.f letC
  by_cases h : (c.toNat : Int) ≥ 97 <;> by_cases h1 : (c.toNat : Int) ≤ 122 <;> by_cases h2 : (c.toNat : Int) ≥ 65 <;> by_cases h3 : (c.toNat : Int) ≤ 90 <;> simp [h, h1, h2, h3] <;> omega
theorem word_impl (c : UInt8) : impl_wordByte.f (c.toNat : Int) = some (wordC c) := by
  unfold impl_wordByte.f wordC
  rw [letter_impl, digit_impl]
  cases letC c <;> cases digC c <;> simp <;> rfl
theorem printed_spec (s : ByteArray) (hs : s.size ≤ 9223372036854775807) : Ev (fun k => spec_l2Printed.f k s) ((Y s).all prC) := by
  refine up_ind s.size (fun i => Ev (fun k => spec_l2Printed.l0 k s (i : Int)) (((Y s).drop i).all prC)) ?_ ?_ 0 (by omega)
  · rw [Y_drop_end]
    exact ev_step (fun _ => spec_l2Printed.l0.eq_2 ..) (ev_neg (by omega) (ev_now _))
  · intro i h ih
    refine ev_step (fun _ => spec_l2Printed.l0.eq_2 ..) (ev_pos (by omega) (ev_pos (by omega) ?_))
    rw [bt_at h, Y_drop h, List.all_cons, w64n h hs]
    unfold prC
    refine ev_ite (fun h1 => ?_) (fun h1 => ev_ite (fun h2 => ?_) (fun h2 => ?_))
    · rw [decide_eq_false (by omega)]
      exact ev_now _
    · rw [decide_eq_false (show ¬ _ ≤ (126 : Int) from by omega), Bool.and_false, Bool.false_and]
      exact ev_now _
    · rw [decide_eq_true (by omega), decide_eq_true (by omega)]
      exact ih
theorem printed_impl (s : ByteArray) (hs : s.size ≤ 9223372036854775807) (n : Nat) : Ev (fun k => impl_printed.f k s (n : Int)) (prL n (Y s)) := by
  unfold impl_printed.f prL
  rw [Y_len]
  refine ev_ite (fun h => ?_) (fun h => ?_)
  · rw [decide_eq_false (by omega)]
    exact ev_now _
  · rw [decide_eq_true (by omega), Bool.true_and]
    refine up_ind s.size (fun i => Ev (fun k => impl_printed.l0 k s (s.size : Int) (i : Int)) (((Y s).drop i).all prC)) ?_ ?_ 0 (by omega)
    · rw [Y_drop_end]
      exact ev_step (fun _ => impl_printed.l0.eq_2 ..) (ev_neg (by omega) (ev_now _))
    · intro i h ih
      refine ev_step (fun _ => impl_printed.l0.eq_2 ..) (ev_pos (by omega) (ev_pos (by omega) (ev_pos (by omega) ?_)))
      rw [bt_at h, Y_drop h, List.all_cons, w64n h hs]
      unfold prC
      refine ev_ite (fun h1 => ?_) (fun h1 => ev_ite (fun h2 => ?_) (fun h2 => ?_))
      · rw [decide_eq_false (by omega)]
        exact ev_now _
      · rw [decide_eq_false (show ¬ _ ≤ (126 : Int) from by omega), Bool.and_false, Bool.false_and]
        exact ev_now _
      · rw [decide_eq_true (by omega), decide_eq_true (by omega)]
        exact ih
theorem value_spec (s : ByteArray) (hs : s.size ≤ 9223372036854775807) : Ev (fun k => spec_l2Value.f k s) (valL (Y s)) := by
  unfold spec_l2Value.f valL prL
  rw [Y_len]
  refine ev_ite (fun h => ev_ite (fun h1 => ?_) (fun h1 => ?_)) (fun h => ?_)
  · rw [decide_eq_true (by omega), decide_eq_true (by omega), Bool.true_and, Bool.true_and]
    exact ev_bind (printed_spec s hs) (ev_now _)
  · rw [decide_eq_false (show ¬ s.size ≤ 100 from by omega), Bool.false_and, Bool.and_false]
    exact ev_now _
  · rw [decide_eq_false (by omega), Bool.false_and]
    exact ev_now _
theorem value_impl (s : ByteArray) (hs : s.size ≤ 9223372036854775807) : Ev (fun k => impl_isValue.f k s) (valL (Y s)) := by
  unfold impl_isValue.f valL
  rw [Y_eq, ]
  refine ev_ite (fun h => ?_) (fun h => ?_)
  · rw [h]
    exact ev_now _
  · have : 1 ≤ (Y s).length := by
      cases e : Y s with
      | nil => exact absurd e h
      | cons a l => simp
    rw [decide_eq_true this, Bool.true_and]
    exact ev_bind (printed_impl s hs 100) (ev_now _)
theorem name_loop_impl (s : ByteArray) (hs : s.size ≤ 9223372036854775807) : Ev (fun k => impl_isName.l0 k s (s.size : Int) 0) ((Y s).all wordC) := by
  refine up_ind s.size (fun i => Ev (fun k => impl_isName.l0 k s (s.size : Int) (i : Int)) (((Y s).drop i).all wordC)) ?_ ?_ 0 (by omega)
  · rw [Y_drop_end]
    exact ev_step (fun _ => impl_isName.l0.eq_2 ..) (ev_neg (by omega) (ev_now _))
  · intro i h ih
    refine ev_step (fun _ => impl_isName.l0.eq_2 ..) (ev_pos (by omega) (ev_pos (by omega) (ev_pos (by omega) ?_)))
    rw [bt_at h, Y_drop h, List.all_cons, w64n h hs]
    refine ev_bind (ev_eq (word_impl _)) (ev_ite (fun h1 => ?_) (fun h1 => ?_))
    · rw [h1]
      exact ih
    · rw [Bool.eq_false_iff.2 h1]
      exact ev_now _
theorem name_loop_spec (s : ByteArray) (hs : s.size ≤ 9223372036854775807) : Ev (fun k => spec_l2Name.l0 k s 0) ((Y s).all wordC) := by
  refine up_ind s.size (fun i => Ev (fun k => spec_l2Name.l0 k s (i : Int)) (((Y s).drop i).all wordC)) ?_ ?_ 0 (by omega)
  · rw [Y_drop_end]
    exact ev_step (fun _ => spec_l2Name.l0.eq_2 ..) (ev_neg (by omega) (ev_now _))
  · intro i h ih
    refine ev_step (fun _ => spec_l2Name.l0.eq_2 ..) (ev_pos (by omega) (ev_pos (by omega) ?_))
    rw [bt_at h, Y_drop h, List.all_cons, w64n h hs]
    unfold wordC
    refine ev_bind (ev_eq (letter_spec _)) (ev_ite (fun h1 => ?_) (fun h1 => ev_bind (ev_eq (digit_spec _)) (ev_ite (fun h2 => ?_) (fun h2 => ev_ite (fun h3 => ?_) (fun h3 => ?_)))))
    · rw [h1]
      exact ih
    · rw [h2, Bool.or_true]
      exact ih
    · rw [decide_eq_true h3, Bool.or_true]
      exact ih
    · rw [Bool.eq_false_iff.2 h1, Bool.eq_false_iff.2 h2, decide_eq_false h3]
      exact ev_now _
theorem name_impl (s : ByteArray) (hs : s.size ≤ 9223372036854775807) : Ev (fun k => impl_isName.f k s) (nameL (Y s)) := by
  unfold impl_isName.f nameL
  rw [Y_eq]
  refine ev_ite (fun h => ?_) (fun h => ?_)
  · rw [h]
    exact ev_step (fun _ => impl_isName.j0.eq_2 ..) (ev_pos rfl (ev_now _))
  · have hl : 1 ≤ (Y s).length := by
      cases e : Y s with
      | nil => exact absurd e h
      | cons a l => simp
    rw [decide_eq_true hl, Y_len, Bool.true_and]
    rw [Y_len] at hl
    refine ev_ite (fun h1 => ?_) (fun h1 => ev_pos (by omega) ?_)
    · rw [decide_eq_false (by omega)]
      exact ev_step (fun _ => impl_isName.j0.eq_2 ..) (ev_pos rfl (ev_now _))
    · rw [decide_eq_true (by omega), Bool.true_and]
      have e0 := bt_at (s := s) (i := 0) (by omega)
      have eh : (Y s).head? = some ((Y s)[0]'(by rw [Y_len]; omega)) := by rw [List.head?_eq_getElem?, List.getElem?_eq_getElem]
      rw [show bt s 0 = bt s ((0 : Nat) : Int) from rfl, e0, eh]
      refine ev_bind (ev_eq (digit_impl _)) (ev_step (fun _ => impl_isName.j0.eq_2 ..) (ev_ite (fun h2 => ?_) (fun h2 => ?_)))
      · rw [Option.any_some, h2]
        exact ev_now _
      · rw [Option.any_some, Bool.eq_false_iff.2 h2]
        exact name_loop_impl s hs
theorem name_spec (s : ByteArray) (hs : s.size ≤ 9223372036854775807) : Ev (fun k => spec_l2Name.f k s) (nameL (Y s)) := by
  unfold spec_l2Name.f nameL
  rw [Y_len]
  refine ev_ite (fun h => ?_) (fun h => ?_)
  · rw [decide_eq_false (by omega)]
    exact ev_step (fun _ => spec_l2Name.j0.eq_2 ..) (ev_pos rfl (ev_now _))
  · rw [decide_eq_true (by omega), Bool.true_and]
    refine ev_ite (fun h1 => ?_) (fun h1 => ev_pos (by omega) ?_)
    · rw [decide_eq_false (by omega)]
      exact ev_step (fun _ => spec_l2Name.j0.eq_2 ..) (ev_pos rfl (ev_now _))
    · rw [decide_eq_true (by omega), Bool.true_and]
      have e0 := bt_at (s := s) (i := 0) (by omega)
      have eh : (Y s).head? = some ((Y s)[0]'(by rw [Y_len]; omega)) := by rw [List.head?_eq_getElem?, List.getElem?_eq_getElem]
      rw [show bt s 0 = bt s ((0 : Nat) : Int) from rfl, e0, eh]
      refine ev_bind (ev_eq (digit_spec _)) (ev_step (fun _ => spec_l2Name.j0.eq_2 ..) (ev_ite (fun h2 => ?_) (fun h2 => ?_)))
      · rw [Option.any_some, h2]
        exact ev_now _
      · rw [Option.any_some, Bool.eq_false_iff.2 h2]
        exact name_loop_spec s hs

end Go.Proofs.Ythgeohdpjedhnaa.U
namespace Go.Proofs.Ythgeohdpjedhnaa.U
open Go.RowKit Go.Proofs.Ythgeohdpjedhnaa.Pr Go.Proofs.YthgeohdpjedhnaaW.PrintWords Go.Proofs.YthgeohdpjedhnaaW.PrintLast Go.Proofs.YthgeohdpjedhnaaW.PrintMore
set_option linter.unusedVariables false
set_option linter.unusedSimpArgs false
def cn (a b : Int) : Int := if a < b then -1 else if a > b then 1 else 0
theorem cmpNum_spec (a b : Int) : spec_l2CmpNum.f a b = some (cn a b) := by
  unfold spec_l2CmpNum.f cn
  by_cases h : a < b
  · rw [if_pos h, if_pos h]
  · rw [if_neg h, if_neg h]
    by_cases h' : a > b
    · rw [if_pos h', if_pos h']
    · rw [if_neg h', if_neg h']
theorem less_cmp : ∀ a b : List UInt8, Op.bytesLess a b = decide (cmpL a b < 0)
  | [], [] => rfl
  | [], _ :: _ => rfl
  | _ :: _, [] => rfl
  | a :: l, b :: m => by
    unfold Op.bytesLess cmpL
    rw [less_cmp l m]
    by_cases e : (a.toNat : Int) = (b.toNat : Int)
    · have : a = b := UInt8.toNat_inj.1 (by omega)
      subst this
      simp
    · have hne : (a == b) = false := by
        rw [beq_eq_false_iff_ne]
        rintro rfl
        exact e rfl
      rw [if_neg e, hne, Bool.false_and, Bool.or_false]
      by_cases h : (a.toNat : Int) < (b.toNat : Int)
      · rw [if_pos h]
        have : a < b := UInt8.lt_iff_toNat_lt.2 (by omega)
        simp [this]
      · rw [if_neg h]
        have : ¬ a < b := fun h' => h (by have := UInt8.lt_iff_toNat_lt.1 h'; omega)
        simp [this]
theorem cmp_spec (s t : ByteArray) (hs : s.size ≤ 9223372036854775807) (ht : t.size ≤ 9223372036854775807) : Ev (fun k => spec_l2CmpText.f k s t) (cmpL (Y s) (Y t)) := by
  refine up_ind (min s.size t.size) (fun i => Ev (fun k => spec_l2CmpText.l0 k s t (i : Int)) (cmpL ((Y s).drop i) ((Y t).drop i))) ?_ ?_ 0 (by omega)
  · generalize hm : min s.size t.size = m
    rcases Nat.lt_or_ge m s.size with h | h
    · have e : m = t.size := by omega
      refine ev_step (fun _ => spec_l2CmpText.l0.eq_2 ..) (ev_pos (by omega) ?_)
      rw [decide_eq_false (by omega)]
      refine ev_step (fun _ => spec_l2CmpText.j1.eq_2 ..) (ev_neg (by decide) (ev_bind (ev_eq (cmpNum_spec _ _)) ?_))
      rw [Y_drop h, show List.drop m (Y t) = [] from by rw [e, Y_drop_end]]
      unfold cn cmpL
      rw [if_neg (by omega), if_pos (by omega)]
      exact ev_now _
    · have e : m = s.size := by omega
      refine ev_step (fun _ => spec_l2CmpText.l0.eq_2 ..) (ev_neg (by omega) ?_)
      refine ev_step (fun _ => spec_l2CmpText.j1.eq_2 ..) (ev_neg (by decide) (ev_bind (ev_eq (cmpNum_spec _ _)) ?_))
      rw [e, Y_drop_end]
      by_cases h2 : s.size < t.size
      · rw [Y_drop h2]
        unfold cn cmpL
        rw [if_pos (by omega)]
        exact ev_now _
      · have e2 : s.size = t.size := by omega
        rw [e2, Y_drop_end]
        unfold cn cmpL
        rw [if_neg (by omega), if_neg (by omega)]
        exact ev_now _
  · intro i h ih
    have h1 : i < s.size := by omega
    have h2 : i < t.size := by omega
    refine ev_step (fun _ => spec_l2CmpText.l0.eq_2 ..) (ev_pos (by omega) ?_)
    rw [decide_eq_true (by omega)]
    refine ev_step (fun _ => spec_l2CmpText.j1.eq_2 ..) (ev_pos rfl (ev_pos (by omega) (ev_pos (by omega) (ev_pos (by omega) ?_))))
    rw [bt_at h1, bt_at h2, Y_drop h1, Y_drop h2, w64n h1 hs]
    have a1 := ((Y s)[i]'(by rw [Y_len]; exact h1)).toNat_lt
    have a2 := ((Y t)[i]'(by rw [Y_len]; exact h2)).toNat_lt
    rw [w64 (x := (((Y s)[i]'(by rw [Y_len]; exact h1)).toNat : Int)) (by omega) (by omega), w64 (x := (((Y t)[i]'(by rw [Y_len]; exact h2)).toNat : Int)) (by omega) (by omega)]
    unfold cmpL
    refine ev_ite (fun h3 => ?_) (fun h3 => ?_)
    · rw [if_pos h3]
      exact ih
    · rw [if_neg h3]
      refine ev_bind (ev_eq (cmpNum_spec _ _)) ?_
      unfold cn
      by_cases h4 : (((Y s)[i]'(by rw [Y_len]; exact h1)).toNat : Int) < (((Y t)[i]'(by rw [Y_len]; exact h2)).toNat : Int)
      · rw [if_pos h4, if_pos h4]
        exact ev_now _
      · rw [if_neg h4, if_neg h4, if_pos (by omega)]
        exact ev_now _

end Go.Proofs.Ythgeohdpjedhnaa.U
namespace Go.Proofs.Ythgeohdpjedhnaa.U
open Go.RowKit Go.Proofs.Ythgeohdpjedhnaa.Pr Go.Proofs.YthgeohdpjedhnaaW.PrintWords Go.Proofs.YthgeohdpjedhnaaW.PrintLast Go.Proofs.YthgeohdpjedhnaaW.PrintMore
set_option linter.unusedVariables false
set_option linter.unusedSimpArgs false
def before (p : Option (List UInt8)) (l : List UInt8) : Bool := match p with
  | none => true
  | some q => decide (cmpL q l < 0)
/-- Labels that are good, each name behind the one ahead. -/
def riseL (p : Option (List UInt8)) : List S86 → Bool
  | [] => true
  | x :: xs => nameL (Y x.f0) && valL (Y x.f1) && before p (Y x.f0) && riseL (some (Y x.f0)) xs
def goodL (l : List S86) : Bool := decide (l.length ≤ 20) && riseL none l
def ptL (l : List S86) (i : Nat) : Option (List UInt8) := if i = 0 then none else some (Y (rd_T86 l ((i - 1 : Nat) : Int)).f0)
/-- Texts that fit. -/
def fitL (l : List S86) : Prop := l.length ≤ 9223372036854775807 ∧ ∀ x ∈ l, x.f0.size ≤ 9223372036854775807 ∧ x.f1.size ≤ 9223372036854775807
theorem goodLabels_impl_l (l : List S86) (hf : fitL l) : Ev (fun k => impl_GoodLabels.l0 k l l (l.length : Int) 0) (riseL none l) := by
  obtain ⟨hl, hw⟩ := hf
  have hrd : ∀ (i : Nat) (h : i < l.length), rd_T86 l (i : Int) = l[i] := fun i h => getD_lt h
  refine up_ind l.length (fun i => Ev (fun k => impl_GoodLabels.l0 k l l (l.length : Int) (i : Int)) (riseL (ptL l i) (l.drop i))) ?_ ?_ 0 (by omega)
  · rw [List.drop_length]
    exact ev_step (fun _ => impl_GoodLabels.l0.eq_2 ..) (ev_neg (by omega) (ev_now _))
  · intro i h ih
    have hp : ptL l (i + 1) = some (Y l[i].f0) := by unfold ptL; rw [if_neg (by omega), Nat.add_sub_cancel, hrd i h]
    rw [hp] at ih
    obtain ⟨w1, w2⟩ := hw l[i] (List.getElem_mem h)
    have wi : wrap64 ((i : Int) + 1) = ((i + 1 : Nat) : Int) := w64n h hl
    refine ev_step (fun _ => impl_GoodLabels.l0.eq_2 ..) (ev_pos (by omega) (ev_pos (by omega) (ev_pos (by omega) ?_)))
    rw [hrd i h, List.drop_eq_getElem_cons h]
    simp only [riseL]
    refine ev_bind (name_impl _ w1) (ev_ite (fun h1 => ev_bind (value_impl _ w2) (ev_ite (fun h2 => ?_) (fun h2 => ?_))) (fun h1 => ?_))
    · rw [h1, h2, Bool.true_and, Bool.true_and]
      by_cases hi : i = 0
      · subst hi
        rw [wi]
        exact ev_neg (by omega) ih
      · have wm : wrap64 ((i : Int) - 1) = ((i - 1 : Nat) : Int) := by rw [w64 (by omega) (by omega)]; omega
        have hq : ptL l i = some (Y l[i - 1].f0) := by unfold ptL; rw [if_neg hi, hrd (i - 1) (by omega)]
        obtain ⟨w3, _⟩ := hw l[i - 1] (List.getElem_mem (by omega))
        rw [wm, hrd (i - 1) (by omega), hq, wi]
        refine ev_pos (by omega) (ev_pos (by omega) (ev_pos (by omega) ?_))
        simp only [before]
        rw [Y_eq, Y_eq, less_cmp]
        refine ev_ite (fun h3 => ?_) (fun h3 => ?_)
        · rw [h3, Bool.true_and]
          exact ih
        · rw [Bool.eq_false_iff.2 h3, Bool.false_and]
          exact ev_now _
    · rw [h1, Bool.eq_false_iff.2 h2]
      exact ev_now _
    · rw [Bool.eq_false_iff.2 h1]
      exact ev_now _
theorem goodLabels_impl (l : List S86) (hf : fitL l) : Ev (fun k => impl_GoodLabels.f k l) (goodL l) := by
  unfold impl_GoodLabels.f goodL
  refine ev_ite (fun h => ?_) (fun h => ?_)
  · rw [decide_eq_false (by omega)]
    exact ev_now _
  · rw [decide_eq_true (by omega), Bool.true_and]
    exact goodLabels_impl_l l hf
theorem goodLabels_spec_l (l : List S86) (hf : fitL l) : Ev (fun k => spec_GoodLabels.l0 k l l (l.length : Int) 0) (riseL none l) := by
  obtain ⟨hl, hw⟩ := hf
  have hrd : ∀ (i : Nat) (h : i < l.length), rd_T86 l (i : Int) = l[i] := fun i h => getD_lt h
  refine up_ind l.length (fun i => Ev (fun k => spec_GoodLabels.l0 k l l (l.length : Int) (i : Int)) (riseL (ptL l i) (l.drop i))) ?_ ?_ 0 (by omega)
  · rw [List.drop_length]
    exact ev_step (fun _ => spec_GoodLabels.l0.eq_2 ..) (ev_neg (by omega) (ev_now _))
  · intro i h ih
    have hp : ptL l (i + 1) = some (Y l[i].f0) := by unfold ptL; rw [if_neg (by omega), Nat.add_sub_cancel, hrd i h]
    rw [hp] at ih
    obtain ⟨w1, w2⟩ := hw l[i] (List.getElem_mem h)
    have wi : wrap64 ((i : Int) + 1) = ((i + 1 : Nat) : Int) := w64n h hl
    refine ev_step (fun _ => spec_GoodLabels.l0.eq_2 ..) (ev_pos (by omega) (ev_pos (by omega) (ev_pos (by omega) ?_)))
    rw [hrd i h, List.drop_eq_getElem_cons h]
    simp only [riseL]
    refine ev_bind (name_spec _ w1) (ev_ite (fun h1 => ev_bind (value_spec _ w2) (ev_ite (fun h2 => ?_) (fun h2 => ?_))) (fun h1 => ?_))
    · rw [h1, h2, Bool.true_and, Bool.true_and]
      by_cases hi : i = 0
      · subst hi
        rw [wi]
        exact ev_neg (by omega) ih
      · have wm : wrap64 ((i : Int) - 1) = ((i - 1 : Nat) : Int) := by rw [w64 (by omega) (by omega)]; omega
        have hq : ptL l i = some (Y l[i - 1].f0) := by unfold ptL; rw [if_neg hi, hrd (i - 1) (by omega)]
        obtain ⟨w3, _⟩ := hw l[i - 1] (List.getElem_mem (by omega))
        rw [wm, hrd (i - 1) (by omega), hq, wi]
        refine ev_pos (by omega) (ev_pos (by omega) (ev_pos (by omega) ?_))
        simp only [before]
        refine ev_bind (cmp_spec _ _ w3 w1) (ev_ite (fun h3 => ?_) (fun h3 => ?_))
        · rw [decide_eq_false (by omega), Bool.false_and]
          exact ev_now _
        · rw [decide_eq_true (by omega), Bool.true_and]
          exact ih
    · rw [h1, Bool.eq_false_iff.2 h2]
      exact ev_now _
    · rw [Bool.eq_false_iff.2 h1]
      exact ev_now _
theorem goodLabels_spec (l : List S86) (hf : fitL l) : Ev (fun k => spec_GoodLabels.f k l) (goodL l) := by
  unfold spec_GoodLabels.f goodL
  refine ev_ite (fun h => ?_) (fun h => ?_)
  · rw [decide_eq_false (by omega)]
    exact ev_now _
  · rw [decide_eq_true (by omega), Bool.true_and]
    exact goodLabels_spec_l l hf

end Go.Proofs.Ythgeohdpjedhnaa.U
namespace Go.Proofs.Ythgeohdpjedhnaa.U
open Go.RowKit Go.Proofs.Ythgeohdpjedhnaa.Pr Go.Proofs.YthgeohdpjedhnaaW.PrintWords Go.Proofs.YthgeohdpjedhnaaW.PrintLast Go.Proofs.YthgeohdpjedhnaaW.PrintMore
set_option linter.unusedVariables false
set_option linter.unusedSimpArgs false
/-- The text of some bytes. -/
def bs (l : List UInt8) : ByteArray := ⟨l.toArray⟩
theorem Y_bs (l : List UInt8) : Y (bs l) = l := by simp [bs]
theorem bs_Y (s : ByteArray) : bs (Y s) = s := Y_inj (Y_bs _)
theorem bs_size (l : List UInt8) : (bs l).size = l.length := by rw [← Y_len, Y_bs]
theorem Y_app (a b : ByteArray) : Y (a ++ b) = Y a ++ Y b := by simp [ByteArray.data_append]
theorem bs_app (a b : List UInt8) : bs a ++ bs b = bs (a ++ b) := Y_inj (by rw [Y_app, Y_bs, Y_bs, Y_bs])
def ints (l : List UInt8) : List Int := l.map fun c => (c.toNat : Int)
theorem ints_len (l : List UInt8) : (ints l).length = l.length := List.length_map ..
theorem ints_two (l : List UInt8) (c : UInt8) : ints l ++ [92] ++ [(c.toNat : Int)] = ints (l ++ [92, c]) := by simp [ints]
theorem ints_one (l : List UInt8) (c : UInt8) : ints l ++ [(c.toNat : Int)] = ints (l ++ [c]) := by simp [ints]
theorem strOf_ints (l : List UInt8) : strOfNums (ints l) = bs l := by
  unfold strOfNums ints bs
  rw [List.map_map]
  congr 2
  rw [show ((fun n => UInt8.ofNat n.toNat) ∘ fun (c : UInt8) => (c.toNat : Int)) = id from by funext c; simp, List.map_id]
def esc (c : UInt8) : List UInt8 := if (c.toNat : Int) = 34 ∨ (c.toNat : Int) = 92 then [92, c] else [c]
/-- A text in quotes: a quote and a backslash stand behind a backslash. -/
def quoteL (l : List UInt8) : List UInt8 := 34 :: (l.flatMap esc ++ [34])
theorem esc_len (c : UInt8) : (esc c).length ≤ 2 := by unfold esc; split <;> simp
theorem escs_len : ∀ l : List UInt8, (l.flatMap esc).length ≤ 2 * l.length := by
  intro l
  induction l with
  | nil => simp
  | cons c l ih => have := esc_len c; rw [List.flatMap_cons, List.length_append, List.length_cons]; omega
theorem quoteL_len (l : List UInt8) : (quoteL l).length ≤ 2 * l.length + 2 := by
  have := escs_len l
  unfold quoteL
  simp only [List.length_cons, List.length_append, List.length_nil]
  omega
theorem quote_spec (s : ByteArray) (hs : s.size ≤ 1048576) : Ev (fun k => spec_l2Quoted.f k s) (bs (quoteL (Y s))) := by
  unfold spec_l2Quoted.f
  have key := up_ind s.size (fun i => ∀ acc : List UInt8, acc.length ≤ 2 * i + 1 → Ev (fun k => spec_l2Quoted.l0 k s (ints acc) (i : Int)) (bs (acc ++ (((Y s).drop i).flatMap esc ++ [34])))) ?_ ?_ 0 (by omega) [34] (by simp)
  · exact key
  · intro acc ha
    rw [Y_drop_end, List.flatMap_nil, List.nil_append]
    refine ev_step (fun _ => spec_l2Quoted.l0.eq_2 ..) (ev_neg (by omega) (ev_pos (by rw [ints_len]; omega) ?_))
    rw [show ints acc ++ [34] = ints (acc ++ [34]) from by simp [ints], strOf_ints]
    exact ev_now _
  · intro i h ih acc ha
    refine ev_step (fun _ => spec_l2Quoted.l0.eq_2 ..) (ev_pos (by omega) (ev_pos (by omega) ?_))
    rw [bt_at h, Y_drop h, List.flatMap_cons, w64n h (by omega)]
    have two : (((Y s)[i]'(by rw [Y_len]; exact h)).toNat : Int) = 34 ∨ (((Y s)[i]'(by rw [Y_len]; exact h)).toNat : Int) = 92 → Ev (fun k => if (ints acc).length < 140737488355328 then ((some (ints acc ++ [92] : List Int)).bind fun y => (if y.length < 140737488355328 then (spec_l2Quoted.l0 k s (y ++ [(((Y s)[i]'(by rw [Y_len]; exact h)).toNat : Int)]) ((i + 1 : Nat) : Int)) else none)) else none) (bs (acc ++ (esc (Y s)[i] ++ ((Y s).drop (i + 1)).flatMap esc ++ [34]))) := by
      intro hc
      refine ev_pos (by rw [ints_len]; omega) (ev_some (ev_pos (by rw [List.length_append, ints_len, List.length_singleton]; omega) ?_))
      rw [ints_two]
      have := ih (acc ++ [92, (Y s)[i]]) (by rw [List.length_append, List.length_cons, List.length_singleton]; omega)
      rw [show esc _ = _ from if_pos hc]
      simpa only [List.append_assoc] using this
    refine ev_ite (fun h1 => two (Or.inl h1)) (fun h1 => ev_ite (fun h2 => two (Or.inr h2)) (fun h2 => ev_pos (by rw [ints_len]; omega) ?_))
    rw [ints_one]
    have := ih (acc ++ [(Y s)[i]]) (by rw [List.length_append, List.length_singleton]; omega)
    rw [show esc _ = _ from if_neg (by rintro (e | e) <;> contradiction)]
    simpa only [List.append_assoc] using this
theorem quote_impl (s : ByteArray) (hs : s.size ≤ 1048576) : Ev (fun k => impl_quote.f k s) (bs (quoteL (Y s))) := by
  unfold impl_quote.f
  have key := up_ind s.size (fun i => ∀ acc : List UInt8, acc.length ≤ 2 * i + 1 → Ev (fun k => impl_quote.l0 k s (ints acc) (s.size : Int) (i : Int)) (bs (acc ++ (((Y s).drop i).flatMap esc ++ [34])))) ?_ ?_ 0 (by omega) [34] (by simp)
  · exact key
  · intro acc ha
    rw [Y_drop_end, List.flatMap_nil, List.nil_append]
    refine ev_step (fun _ => impl_quote.l0.eq_2 ..) (ev_neg (by omega) (ev_pos (by rw [ints_len]; omega) ?_))
    rw [show ints acc ++ [34] = ints (acc ++ [34]) from by simp [ints], strOf_ints]
    exact ev_now _
  · intro i h ih acc ha
    refine ev_step (fun _ => impl_quote.l0.eq_2 ..) (ev_pos (by omega) (ev_pos (by omega) (ev_pos (by omega) ?_)))
    rw [bt_at h, Y_drop h, List.flatMap_cons, w64n h (by omega)]
    have two : (((Y s)[i]'(by rw [Y_len]; exact h)).toNat : Int) = 34 ∨ (((Y s)[i]'(by rw [Y_len]; exact h)).toNat : Int) = 92 → Ev (fun k => if (ints acc).length < 140737488355328 then ((some (ints acc ++ [92] : List Int)).bind fun y => (if y.length < 140737488355328 then (impl_quote.l0 k s (y ++ [(((Y s)[i]'(by rw [Y_len]; exact h)).toNat : Int)]) (s.size : Int) ((i + 1 : Nat) : Int)) else none)) else none) (bs (acc ++ (esc (Y s)[i] ++ ((Y s).drop (i + 1)).flatMap esc ++ [34]))) := by
      intro hc
      refine ev_pos (by rw [ints_len]; omega) (ev_some (ev_pos (by rw [List.length_append, ints_len, List.length_singleton]; omega) ?_))
      rw [ints_two]
      have := ih (acc ++ [92, (Y s)[i]]) (by rw [List.length_append, List.length_cons, List.length_singleton]; omega)
      rw [show esc _ = _ from if_pos hc]
      simpa only [List.append_assoc] using this
    refine ev_ite (fun h1 => two (Or.inl h1)) (fun h1 => ev_ite (fun h2 => two (Or.inr h2)) (fun h2 => ev_pos (by rw [ints_len]; omega) ?_))
    rw [ints_one]
    have := ih (acc ++ [(Y s)[i]]) (by rw [List.length_append, List.length_singleton]; omega)
    rw [show esc _ = _ from if_neg (by rintro (e | e) <;> contradiction)]
    simpa only [List.append_assoc] using this

end Go.Proofs.Ythgeohdpjedhnaa.U
namespace Go.Proofs.Ythgeohdpjedhnaa.U
open Go.RowKit Go.Proofs.Ythgeohdpjedhnaa.Pr Go.Proofs.YthgeohdpjedhnaaW.PrintWords Go.Proofs.YthgeohdpjedhnaaW.PrintLast Go.Proofs.YthgeohdpjedhnaaW.PrintMore
set_option linter.unusedVariables false
set_option linter.unusedSimpArgs false
theorem riseL_all : ∀ (l : List S86) (p : Option (List UInt8)), riseL p l = true → ∀ x ∈ l, nameL (Y x.f0) = true ∧ valL (Y x.f1) = true := by
  intro l
  induction l with
  | nil => intro p _ x hx; cases hx
  | cons y ys ih =>
    intro p h x hx
    simp only [riseL, Bool.and_eq_true] at h
    rcases List.mem_cons.1 hx with rfl | hx
    · exact ⟨h.1.1.1, h.1.1.2⟩
    · exact ih _ h.2 x hx
theorem goodL_all {l : List S86} (h : goodL l = true) : l.length ≤ 20 ∧ ∀ x ∈ l, x.f0.size ≤ 40 ∧ x.f1.size ≤ 100 := by
  unfold goodL at h
  rw [Bool.and_eq_true, decide_eq_true_eq] at h
  refine ⟨h.1, fun x hx => ?_⟩
  obtain ⟨h1, h2⟩ := riseL_all l none h.2 x hx
  simp only [nameL, valL, prL, Bool.and_eq_true, decide_eq_true_eq, Y_len] at h1 h2
  exact ⟨h1.1.1.2, h2.2.1⟩
def itemL (x : S86) : List UInt8 := Y x.f0 ++ 61 :: quoteL (Y x.f1)
theorem itemL_len (x : S86) (h : x.f0.size ≤ 40 ∧ x.f1.size ≤ 100) : (itemL x).length ≤ 300 := by
  have := quoteL_len (Y x.f1)
  unfold itemL
  rw [List.length_append, List.length_cons, Y_len]
  rw [Y_len] at this
  omega
theorem item_eq (x : S86) : x.f0 ++ (⟨#[61]⟩ : ByteArray) ++ bs (quoteL (Y x.f1)) = bs (itemL x) := Y_inj (by rw [Y_app, Y_app, Y_bs, Y_bs]; unfold itemL; rw [List.append_assoc]; rfl)
def tailT : Bool → List S86 → List UInt8
  | _, [] => [125]
  | b, x :: xs => (if b = true then [] else [44]) ++ (itemL x ++ tailT false xs)
/-- Labels' text. -/
def textL (l : List S86) : List UInt8 := 123 :: tailT true l
theorem text_spec_l (l : List S86) (hn : l.length ≤ 20) (hb : ∀ x ∈ l, x.f0.size ≤ 40 ∧ x.f1.size ≤ 100) : Ev (fun k => spec_l2Text.f k l) (bs (textL l)) := by
  unfold spec_l2Text.f
  have hrd : ∀ (i : Nat) (h : i < l.length), rd_T86 l (i : Int) = l[i] := fun i h => getD_lt h
  have key := up_ind l.length (fun i => ∀ acc : List UInt8, acc.length ≤ 400 * i + 1 → Ev (fun k => spec_l2Text.l0 k (bs acc) l (l.length : Int) (i : Int)) (bs (acc ++ tailT (decide (i = 0)) (l.drop i)))) ?_ ?_ 0 (by omega) [123] (by simp)
  · exact key
  · intro acc ha
    rw [List.drop_length]
    refine ev_step (fun _ => spec_l2Text.l0.eq_2 ..) (ev_neg (by omega) (ev_pos (by rw [bs_size]; omega) ?_))
    rw [show (⟨#[125]⟩ : ByteArray) = bs [125] from rfl, bs_app]
    exact ev_now _
  · intro i h ih acc ha
    obtain ⟨b1, b2⟩ := hb l[i] (List.getElem_mem h)
    have ql := quoteL_len (Y l[i].f1)
    rw [Y_len] at ql
    have il := itemL_len l[i] ⟨b1, b2⟩
    refine ev_step (fun _ => spec_l2Text.l0.eq_2 ..) (ev_pos (by omega) (ev_pos (by omega) (ev_pos (by omega) ?_)))
    rw [hrd i h, List.drop_eq_getElem_cons h, w64n h (by omega)]
    refine ev_ite (fun h1 => ?_) (fun h1 => ?_)
    · refine ev_pos (by rw [bs_size]; omega) (ev_pos (by omega) (ev_bind (quote_spec _ (by omega)) (ev_pos (by rw [ByteArray.size_append, bs_size]; show _ + 1 + _ ≤ _; omega) ?_)))
      rw [item_eq, show (⟨#[44]⟩ : ByteArray) = bs [44] from rfl, bs_app, bs_app, bs_size, bs_size]
      refine ev_pos (by rw [List.length_append, List.length_singleton]; omega) ?_
      have := ih (acc ++ [44] ++ itemL l[i]) (by rw [List.length_append, List.length_append, List.length_singleton]; omega)
      rw [decide_eq_false (by omega)] at this ⊢
      simpa [tailT] using this
    · obtain rfl : i = 0 := by omega
      refine ev_pos (by omega) (ev_bind (quote_spec _ (by omega)) (ev_pos (by rw [ByteArray.size_append, bs_size]; show _ + 1 + _ ≤ _; omega) ?_))
      rw [item_eq, bs_app, bs_size, bs_size]
      refine ev_pos (by omega) ?_
      have := ih (acc ++ itemL l[0]) (by rw [List.length_append]; omega)
      rw [decide_eq_false (by omega)] at this
      rw [decide_eq_true rfl]
      simpa [tailT] using this
theorem joinTail_len (B : Nat) : ∀ r : List (List UInt8), (∀ x ∈ r, x.length ≤ B) → (Lib.joinTail [44] r).length ≤ r.length * (B + 1) := by
  intro r
  induction r with
  | nil => intro _; simp [Lib.joinTail]
  | cons x r ih =>
    intro h
    have h1 := ih (fun y hy => h y (List.mem_cons_of_mem _ hy))
    have h2 := h x (List.mem_cons_self ..)
    unfold Lib.joinTail at h1 ⊢
    rw [List.map_cons, List.flatten_cons, List.length_append, List.length_append, List.length_singleton, List.length_cons, Nat.add_mul, Nat.one_mul]
    omega
theorem joinTail_items : ∀ l : List S86, Lib.joinTail [44] (l.map itemL) ++ [125] = tailT false l := by
  intro l
  induction l with
  | nil => rfl
  | cons x l ih =>
    simp only [tailT]
    rw [← ih]
    simp [Lib.joinTail]
theorem join_items (l : List S86) : Lib.join (l.map itemL) [44] ++ [125] = tailT true l := by
  cases l with
  | nil => rfl
  | cons x l =>
    rw [List.map_cons, Lib.join_cons, List.append_assoc, joinTail_items]
    rfl
theorem join_len (l : List S86) (hn : l.length ≤ 20) (hb : ∀ x ∈ l, x.f0.size ≤ 40 ∧ x.f1.size ≤ 100) : (Lib.join (l.map itemL) [44]).length ≤ 6321 := by
  cases l with
  | nil => simp [Lib.join_nil]
  | cons x l =>
    have h1 := joinTail_len 300 (l.map itemL) (fun y hy => by
      obtain ⟨z, hz, rfl⟩ := List.mem_map.1 hy
      exact itemL_len z (hb z (List.mem_cons_of_mem _ hz)))
    have h2 := itemL_len x (hb x (List.mem_cons_self ..))
    rw [List.length_map] at h1
    rw [List.length_cons] at hn
    rw [List.map_cons, Lib.join_cons, List.length_append]
    omega
theorem text_impl_l (l : List S86) (hn : l.length ≤ 20) (hb : ∀ x ∈ l, x.f0.size ≤ 40 ∧ x.f1.size ≤ 100) : Ev (fun k => impl_LabelsText.l0 k [] l (l.length : Int) 0) (bs (textL l)) := by
  have hrd : ∀ (i : Nat) (h : i < l.length), rd_T86 l (i : Int) = l[i] := fun i h => getD_lt h
  have key := up_ind l.length (fun i => Ev (fun k => impl_LabelsText.l0 k ((l.take i).map fun x => bs (itemL x)) l (l.length : Int) (i : Int)) (bs (textL l))) ?_ ?_ 0 (by omega)
  · exact key
  · rw [List.take_length]
    refine ev_step (fun _ => impl_LabelsText.l0.eq_2 ..) (ev_neg (by omega) ?_)
    have e1 : ((l.map fun x => bs (itemL x)).map (·.data.toList)) = l.map itemL := by rw [List.map_map]; exact congrArg (fun f => l.map f) (funext fun x => Y_bs _)
    have e2 := join_len l hn hb
    refine ev_bind (a := bs (Lib.join (l.map itemL) [44])) (ev_eq ?_) ?_
    · unfold strings_Join.f
      rw [e1]
      exact if_pos ⟨by rw [List.length_map]; omega, by show (Lib.join (l.map itemL) [44]).length ≤ _; omega⟩
    · refine ev_pos (by rw [bs_size]; omega) ?_
      rw [show (⟨#[123]⟩ : ByteArray) = bs [123] from rfl, show (⟨#[125]⟩ : ByteArray) = bs [125] from rfl, bs_app, bs_app, bs_size]
      refine ev_pos (by rw [List.length_append, List.length_singleton]; omega) ?_
      rw [List.append_assoc, join_items]
      exact ev_now _
  · intro i h ih
    obtain ⟨b1, b2⟩ := hb l[i] (List.getElem_mem h)
    have ql := quoteL_len (Y l[i].f1)
    rw [Y_len] at ql
    refine ev_step (fun _ => impl_LabelsText.l0.eq_2 ..) (ev_pos (by omega) (ev_pos (by omega) (ev_pos (by omega) ?_)))
    rw [hrd i h, w64n h (by omega)]
    refine ev_pos (by omega) (ev_bind (quote_impl _ (by omega)) (ev_pos (by rw [ByteArray.size_append, bs_size]; show _ + 1 + _ ≤ _; omega) (ev_pos (by rw [List.length_map, List.length_take]; omega) ?_)))
    rw [item_eq]
    rw [List.take_succ_eq_append_getElem h, List.map_append] at ih
    exact ih
def textOf (l : List S86) : ByteArray := if goodL l = true then bs (textL l) else bs []
theorem text_spec (l : List S86) (hf : fitL l) : Ev (fun k => spec_LabelsText.f k l) (textOf l) := by
  unfold spec_LabelsText.f textOf
  refine ev_bind (goodLabels_spec l hf) (ev_ite (fun h => ?_) (fun h => ?_))
  · obtain ⟨h1, h2⟩ := goodL_all h
    rw [if_pos h]
    exact ev_bind (text_spec_l l h1 h2) (ev_now _)
  · rw [if_neg h]
    exact ev_now _
theorem text_impl (l : List S86) (hf : fitL l) : Ev (fun k => impl_LabelsText.f k l) (textOf l) := by
  unfold impl_LabelsText.f textOf
  refine ev_bind (goodLabels_impl l hf) (ev_ite (fun h => ?_) (fun h => ?_))
  · obtain ⟨h1, h2⟩ := goodL_all h
    rw [if_pos h]
    exact text_impl_l l h1 h2
  · rw [if_neg h]
    exact ev_now _

end Go.Proofs.Ythgeohdpjedhnaa.U
namespace Go.Proofs.Ythgeohdpjedhnaa.U
open Go.RowKit Go.Proofs.Ythgeohdpjedhnaa.Pr Go.Proofs.YthgeohdpjedhnaaW.PrintWords Go.Proofs.YthgeohdpjedhnaaW.PrintLast Go.Proofs.YthgeohdpjedhnaaW.PrintMore
set_option linter.unusedVariables false
set_option linter.unusedSimpArgs false
theorem u8i {c d : UInt8} : (c.toNat : Int) = (d.toNat : Int) ↔ c = d := by rw [Int.natCast_inj, UInt8.toNat_inj]
theorem u34 {c : UInt8} : (c.toNat : Int) = 34 ↔ c = 34 := u8i (d := 34)
theorem u92 {c : UInt8} : (c.toNat : Int) = 92 ↔ c = 92 := u8i (d := 92)
theorem Y_ext (s : ByteArray) (a b : Nat) : Y (s.extract a b) = ((Y s).drop a).take (b - a) := by
  show (s.extract a b).data.toList = _
  rw [ByteArray.data_extract, Array.toList_extract, List.extract_eq_take_drop]
theorem ext_drop (s : ByteArray) (n : Nat) : s.extract n s.size = bs ((Y s).drop n) := Y_inj (by rw [Y_ext, Y_bs, List.take_of_length_le]; rw [List.length_drop, Y_len]; exact Nat.le_refl _)
theorem ext_take (s : ByteArray) (n : Nat) : s.extract 0 n = bs ((Y s).take n) := Y_inj (by rw [Y_ext, Y_bs, List.drop_zero, Nat.sub_zero])
/-- What stands between quotes, read behind the first: it, and what is behind the last. -/
def unq : List UInt8 → Option (List UInt8 × List UInt8)
  | [] => none
  | [c] => if c = 34 then some ([], []) else none
  | c :: d :: r => if c = 34 then some ([], d :: r) else if c = 92 then (if d = 34 ∨ d = 92 then (unq r).map (fun p => (d :: p.1, p.2)) else none) else (unq (d :: r)).map (fun p => (c :: p.1, p.2))
theorem unq_q (c : UInt8) (r : List UInt8) (h : c = 34) : unq (c :: r) = some ([], r) := by
  cases r with
  | nil => simp only [unq]; exact if_pos h
  | cons d r => simp only [unq]; exact if_pos h
theorem unq_o (c : UInt8) (r : List UInt8) (h : c ≠ 34) (h' : c ≠ 92) : unq (c :: r) = (unq r).map (fun p => (c :: p.1, p.2)) := by
  cases r with
  | nil => simp only [unq]; rw [if_neg h]; rfl
  | cons d r => simp only [unq]; rw [if_neg h, if_neg h']
theorem unq_b0 (c : UInt8) (h : c = 92) : unq [c] = none := by subst h; rfl
theorem unq_b (c d : UInt8) (r : List UInt8) (h : c = 92) : unq (c :: d :: r) = if d = 34 ∨ d = 92 then (unq r).map (fun p => (d :: p.1, p.2)) else none := by subst h; rfl
theorem unq_round : ∀ (n : Nat) (l : List UInt8), l.length ≤ n → ∀ v r, unq l = some (v, r) → l = v.flatMap esc ++ 34 :: r := by
  intro n
  induction n with
  | zero => intro l hl v r h; obtain rfl := List.eq_nil_of_length_eq_zero (Nat.le_zero.1 hl); cases h
  | succ n ih =>
    intro l hl v r h
    cases l with
    | nil => cases h
    | cons c l =>
      rw [List.length_cons] at hl
      by_cases h1 : c = 34
      · rw [unq_q c l h1] at h
        cases h
        rw [h1]
        rfl
      · by_cases h2 : c = 92
        · cases l with
          | nil => rw [unq_b0 c h2] at h; cases h
          | cons d l =>
            rw [List.length_cons] at hl
            rw [unq_b c d l h2] at h
            by_cases h3 : d = 34 ∨ d = 92
            · rw [if_pos h3] at h
              cases e : unq l with
              | none => rw [e] at h; cases h
              | some p =>
                rw [e] at h
                obtain ⟨v', r'⟩ := p
                cases h
                have := ih l (by omega) v' _ e
                rw [List.flatMap_cons, show esc d = [92, d] from if_pos (by rw [u34, u92]; exact h3), this, h2]
                rfl
            · rw [if_neg h3] at h; cases h
        · rw [unq_o c l h1 h2] at h
          cases e : unq l with
          | none => rw [e] at h; cases h
          | some p =>
            rw [e] at h
            obtain ⟨v', r'⟩ := p
            cases h
            have := ih l (by omega) v' _ e
            rw [List.flatMap_cons, show esc c = [c] from if_neg (by rw [u34, u92]; rintro (e | e) <;> contradiction), this]
            rfl
def unI (acc : List UInt8) : Option (List UInt8 × List UInt8) → ByteArray × ByteArray × Bool
  | some (v, r) => (bs (acc ++ v), bs r, true)
  | none => (bs [], bs [], false)
def unS (n : Nat) (acc : List UInt8) : Option (List UInt8 × List UInt8) → ByteArray × Int
  | some (v, r) => (bs (acc ++ v), (n : Int) - (r.length : Int))
  | none => (bs [], -1)
theorem unI_map (acc : List UInt8) (c : UInt8) (o : Option (List UInt8 × List UInt8)) : unI acc (o.map fun p => (c :: p.1, p.2)) = unI (acc ++ [c]) o := by
  cases o with
  | none => rfl
  | some p => show (_, _, _) = (_, _, _); simp
theorem unS_map (n : Nat) (acc : List UInt8) (c : UInt8) (o : Option (List UInt8 × List UInt8)) : unS n acc (o.map fun p => (c :: p.1, p.2)) = unS n (acc ++ [c]) o := by
  cases o with
  | none => rfl
  | some p => show (_, _) = (_, _); simp
theorem unq_impl_l (s : ByteArray) (hs : s.size ≤ 1048576) : ∀ (d i : Nat), i ≤ s.size → s.size - i ≤ d → ∀ acc : List UInt8, acc.length ≤ i → Ev (fun k => impl_unquote.l0 k s (ints acc) (i : Int)) (unI acc (unq ((Y s).drop i))) := by
  intro d
  induction d with
  | zero =>
    intro i hi hd acc ha
    obtain rfl : i = s.size := by omega
    rw [Y_drop_end]
    exact ev_step (fun _ => impl_unquote.l0.eq_2 ..) (ev_neg (by omega) (ev_now _))
  | succ d ih =>
    intro i hi hd acc ha
    by_cases h : i < s.size
    · refine ev_step (fun _ => impl_unquote.l0.eq_2 ..) (ev_pos (by omega) (ev_pos (by omega) ?_))
      rw [bt_at h, Y_drop h, w64n h (by omega)]
      refine ev_ite (fun h1 => ?_) (fun h1 => ?_)
      · rw [unq_q _ _ (u34.1 h1), strOf_ints, Int.toNat_natCast, ext_drop]
        refine ev_pos (by omega) (ev_pos (by omega) ?_)
        have := ev_now (α := ByteArray × ByteArray × Bool) (bs acc, bs ((Y s).drop (i + 1)), true)
        simpa [unI] using this
      · rw [u34] at h1
        refine ev_ite (fun h2 => ?_) (fun h2 => ?_)
        · rw [u92] at h2
          refine ev_ite (fun h3 => ?_) (fun h3 => ?_)
          · rw [show i + 1 = s.size from by omega, Y_drop_end, unq_b0 _ h2]
            exact ev_now _
          · have h4 : i + 1 < s.size := by omega
            rw [bt_at h4, Y_drop h4, unq_b _ _ _ h2, w64n h4 (by omega)]
            have two : (Y s)[i + 1]'(by rw [Y_len]; exact h4) = 34 ∨ (Y s)[i + 1]'(by rw [Y_len]; exact h4) = 92 → Ev (fun k => if (ints acc).length < 140737488355328 then (impl_unquote.l0 k s (ints acc ++ [(((Y s)[i + 1]'(by rw [Y_len]; exact h4)).toNat : Int)]) ((i + 1 + 1 : Nat) : Int)) else none) (unI acc (if (Y s)[i + 1]'(by rw [Y_len]; exact h4) = 34 ∨ (Y s)[i + 1]'(by rw [Y_len]; exact h4) = 92 then (unq ((Y s).drop (i + 1 + 1))).map (fun p => ((Y s)[i + 1]'(by rw [Y_len]; exact h4) :: p.1, p.2)) else none)) := by
              intro hc
              rw [if_pos hc, unI_map, ints_one]
              exact ev_pos (by rw [ints_len]; omega) (ih (i + 1 + 1) (by omega) (by omega) _ (by rw [List.length_append, List.length_singleton]; omega))
            refine ev_pos (by omega) (ev_pos (by omega) (ev_ite (fun h5 => two (Or.inl (u34.1 h5))) (fun h5 => ev_ite (fun h6 => two (Or.inr (u92.1 h6))) (fun h6 => ?_))))
            rw [u34] at h5
            rw [u92] at h6
            rw [if_neg (by rintro (e | e) <;> contradiction)]
            exact ev_now _
        · rw [u92] at h2
          rw [unq_o _ _ h1 h2, unI_map, ints_one]
          exact ev_pos (by rw [ints_len]; omega) (ih (i + 1) (by omega) (by omega) _ (by rw [List.length_append, List.length_singleton]; omega))
    · obtain rfl : i = s.size := by omega
      rw [Y_drop_end]
      exact ev_step (fun _ => impl_unquote.l0.eq_2 ..) (ev_neg (by omega) (ev_now _))
theorem unq_spec_l (s : ByteArray) (hs : s.size ≤ 1048576) : ∀ (d i : Nat), i ≤ s.size → s.size - i ≤ d → ∀ acc : List UInt8, acc.length ≤ i → Ev (fun k => spec_l2Unquote.l0 k s (ints acc) (i : Int)) (unS s.size acc (unq ((Y s).drop i))) := by
  intro d
  induction d with
  | zero =>
    intro i hi hd acc ha
    obtain rfl : i = s.size := by omega
    rw [Y_drop_end]
    exact ev_step (fun _ => spec_l2Unquote.l0.eq_2 ..) (ev_neg (by omega) (ev_now _))
  | succ d ih =>
    intro i hi hd acc ha
    by_cases h : i < s.size
    · refine ev_step (fun _ => spec_l2Unquote.l0.eq_2 ..) (ev_pos (by omega) (ev_pos (by omega) ?_))
      rw [bt_at h, Y_drop h, w64n h (by omega)]
      refine ev_ite (fun h1 => ?_) (fun h1 => ?_)
      · rw [unq_q _ _ (u34.1 h1), strOf_ints]
        have e1 : (s.size : Int) - (((Y s).drop (i + 1)).length : Int) = ((i + 1 : Nat) : Int) := by rw [List.length_drop, Y_len]; omega
        have e2 : unS s.size acc (some ([], (Y s).drop (i + 1))) = (bs acc, ((i + 1 : Nat) : Int)) := by show (_, _) = (_, _); rw [e1, List.append_nil]
        rw [e2]
        exact ev_now _
      · rw [u34] at h1
        refine ev_ite (fun h2 => ?_) (fun h2 => ?_)
        · rw [u92] at h2
          refine ev_ite (fun h3 => ?_) (fun h3 => ?_)
          · rw [show i + 1 = s.size from by omega, Y_drop_end, unq_b0 _ h2]
            exact ev_now _
          · have h4 : i + 1 < s.size := by omega
            rw [bt_at h4, Y_drop h4, unq_b _ _ _ h2, w64n h4 (by omega)]
            have two : (Y s)[i + 1]'(by rw [Y_len]; exact h4) = 34 ∨ (Y s)[i + 1]'(by rw [Y_len]; exact h4) = 92 → Ev (fun k => if (ints acc).length < 140737488355328 then (spec_l2Unquote.l0 k s (ints acc ++ [(((Y s)[i + 1]'(by rw [Y_len]; exact h4)).toNat : Int)]) ((i + 1 + 1 : Nat) : Int)) else none) (unS s.size acc (if (Y s)[i + 1]'(by rw [Y_len]; exact h4) = 34 ∨ (Y s)[i + 1]'(by rw [Y_len]; exact h4) = 92 then (unq ((Y s).drop (i + 1 + 1))).map (fun p => ((Y s)[i + 1]'(by rw [Y_len]; exact h4) :: p.1, p.2)) else none)) := by
              intro hc
              rw [if_pos hc, unS_map, ints_one]
              exact ev_pos (by rw [ints_len]; omega) (ih (i + 1 + 1) (by omega) (by omega) _ (by rw [List.length_append, List.length_singleton]; omega))
            refine ev_pos (by omega) (ev_pos (by omega) (ev_ite (fun h5 => two (Or.inl (u34.1 h5))) (fun h5 => ev_ite (fun h6 => two (Or.inr (u92.1 h6))) (fun h6 => ?_))))
            rw [u34] at h5
            rw [u92] at h6
            rw [if_neg (by rintro (e | e) <;> contradiction)]
            exact ev_now _
        · rw [u92] at h2
          rw [unq_o _ _ h1 h2, unS_map, ints_one]
          exact ev_pos (by rw [ints_len]; omega) (ih (i + 1) (by omega) (by omega) _ (by rw [List.length_append, List.length_singleton]; omega))
    · obtain rfl : i = s.size := by omega
      rw [Y_drop_end]
      exact ev_step (fun _ => spec_l2Unquote.l0.eq_2 ..) (ev_neg (by omega) (ev_now _))
/-- A quoted text at the front. -/
def unqF : List UInt8 → Option (List UInt8 × List UInt8)
  | [] => none
  | c :: r => if c = 34 then unq r else none
theorem Y_nil {s : ByteArray} (h : s.size = 0) : Y s = [] := List.eq_nil_of_length_eq_zero (by rw [Y_len]; exact h)
theorem Y_cons {s : ByteArray} (h : 0 < s.size) : Y s = (Y s)[0]'(by rw [Y_len]; exact h) :: (Y s).drop 1 := by
  have := Y_drop h
  rwa [List.drop_zero] at this
theorem unquote_impl (s : ByteArray) (hs : s.size ≤ 1048576) : Ev (fun k => impl_unquote.f k s) (unI [] (unqF (Y s))) := by
  unfold impl_unquote.f
  rw [Y_eq]
  refine ev_ite (fun h => ?_) (fun h => ?_)
  · rw [h]
    exact ev_step (fun _ => impl_unquote.j0.eq_2 ..) (ev_pos rfl (ev_now _))
  · have h0 : 0 < s.size := Nat.pos_of_ne_zero fun e => h (Y_nil e)
    have key := unq_impl_l s hs s.size 1 (by omega) (by omega) [] (by simp)
    rw [Y_cons h0, show bt s 0 = bt s ((0 : Nat) : Int) from rfl, bt_at h0]
    refine ev_pos (by omega) (ev_step (fun _ => impl_unquote.j0.eq_2 ..) (ev_ite (fun h1 => ?_) (fun h1 => ?_)))
    · rw [bne_iff_ne, ne_eq, u34] at h1
      rw [show unqF (_ :: _) = _ from if_neg h1]
      exact ev_now _
    · rw [bne_iff_ne, ne_eq, u34, Decidable.not_not] at h1
      rw [show unqF (_ :: _) = _ from if_pos h1]
      exact key
theorem unquote_spec (s : ByteArray) (hs : s.size ≤ 1048576) (i : Nat) : Ev (fun k => spec_l2Unquote.f k s (i : Int)) (unS s.size [] (unqF ((Y s).drop i))) := by
  unfold spec_l2Unquote.f
  refine ev_ite (fun h => ?_) (fun h => ev_pos (by omega) (ev_pos (by omega) ?_))
  · rw [List.drop_of_length_le (by rw [Y_len]; omega)]
    exact ev_step (fun _ => spec_l2Unquote.j0.eq_2 ..) (ev_pos rfl (ev_now _))
  · have h0 : i < s.size := by omega
    have key := unq_spec_l s hs s.size (i + 1) (by omega) (by omega) [] (by simp)
    rw [bt_at h0, Y_drop h0]
    refine ev_step (fun _ => spec_l2Unquote.j0.eq_2 ..) (ev_ite (fun h1 => ?_) (fun h1 => ?_))
    · rw [bne_iff_ne, ne_eq, u34] at h1
      rw [show unqF (_ :: _) = _ from if_neg h1]
      exact ev_now _
    · rw [bne_iff_ne, ne_eq, u34, Decidable.not_not] at h1
      rw [show unqF (_ :: _) = _ from if_pos h1, w64n h0 (by omega)]
      exact key
/-- How many letters, digits and _ stand at the front. -/
def wl : List UInt8 → Nat
  | [] => 0
  | c :: r => if wordC c = true then wl r + 1 else 0
theorem wl_le : ∀ l : List UInt8, wl l ≤ l.length := by
  intro l
  induction l with
  | nil => exact Nat.le_refl _
  | cons c l ih => simp only [wl, List.length_cons]; split <;> omega
theorem word_impl_l (s : ByteArray) (hs : s.size ≤ 1048576) : Ev (fun k => impl_wordOf.f k s) (bs ((Y s).take (wl (Y s))), bs ((Y s).drop (wl (Y s)))) := by
  unfold impl_wordOf.f
  have key := up_ind s.size (fun i => Ev (fun k => impl_wordOf.l0 k s (i : Int)) (bs ((Y s).take (i + wl ((Y s).drop i))), bs ((Y s).drop (i + wl ((Y s).drop i))))) ?_ ?_ 0 (by omega)
  · rw [List.drop_zero, Nat.zero_add] at key
    exact key
  · rw [Y_drop_end]
    refine ev_step (fun _ => impl_wordOf.l0.eq_2 ..) (ev_neg (by omega) (ev_pos (by omega) (ev_pos (by omega) ?_)))
    rw [Int.toNat_natCast, ext_take, ext_drop]
    exact ev_now _
  · intro i h ih
    refine ev_step (fun _ => impl_wordOf.l0.eq_2 ..) (ev_pos (by omega) (ev_pos (by omega) ?_))
    rw [bt_at h, Y_drop h, w64n h (by omega)]
    simp only [wl]
    refine ev_bind (ev_eq (word_impl _)) (ev_ite (fun h1 => ?_) (fun h1 => ?_))
    · rw [if_pos h1, show i + (wl ((Y s).drop (i + 1)) + 1) = i + 1 + wl ((Y s).drop (i + 1)) from by omega]
      exact ih
    · rw [if_neg h1, Int.toNat_natCast, ext_take, ext_drop]
      exact ev_pos (by omega) (ev_now _)
theorem nameAt_spec (s : ByteArray) (hs : s.size ≤ 1048576) (i : Nat) (hi : i ≤ s.size) : Ev (fun k => spec_l2NameAt.f k s (i : Int)) ((i + wl ((Y s).drop i) : Nat) : Int) := by
  unfold spec_l2NameAt.f
  refine up_ind s.size (fun i => Ev (fun k => spec_l2NameAt.l0 k s (i : Int)) ((i + wl ((Y s).drop i) : Nat) : Int)) ?_ ?_ i hi
  · rw [Y_drop_end]
    exact ev_step (fun _ => spec_l2NameAt.l0.eq_2 ..) (ev_neg (by omega) (ev_now _))
  · intro i h ih
    refine ev_step (fun _ => spec_l2NameAt.l0.eq_2 ..) (ev_pos (by omega) (ev_pos (by omega) ?_))
    rw [bt_at h, Y_drop h, w64n h (by omega)]
    simp only [wl]
    rw [show i + 1 + wl ((Y s).drop (i + 1)) = i + (wl ((Y s).drop (i + 1)) + 1) from by omega] at ih
    unfold wordC
    refine ev_bind (ev_eq (letter_spec _)) (ev_ite (fun h1 => ?_) (fun h1 => ev_bind (ev_eq (digit_spec _)) (ev_ite (fun h2 => ?_) (fun h2 => ev_ite (fun h3 => ?_) (fun h3 => ?_)))))
    · rw [h1, Bool.true_or, Bool.true_or, if_pos rfl]
      exact ih
    · rw [h2, Bool.or_true, Bool.true_or, if_pos rfl]
      exact ih
    · rw [decide_eq_true h3, Bool.or_true, if_pos rfl]
      exact ih
    · rw [Bool.eq_false_iff.2 h1, Bool.eq_false_iff.2 h2, decide_eq_false h3, if_neg (by decide)]
      exact ev_now _
theorem hasPre (l : List UInt8) (c : UInt8) : stringslite_HasPrefix.f (bs l) ⟨#[c]⟩ = some (decide (l.head? = some c)) := by
  unfold stringslite_HasPrefix.f
  rw [bs_size, show ((⟨#[c]⟩ : ByteArray).size : Int) = 1 from rfl]
  cases l with
  | nil => rfl
  | cons d r =>
    rw [if_pos (by rw [List.length_cons]; omega), if_pos (by omega), if_pos (by rw [List.length_cons]; omega), Y_eq, Y_eq, ext_take, Y_bs, Y_bs, show Y ⟨#[c]⟩ = [c] from rfl]
    congr 1
    rw [List.head?_cons, show (d :: r).take (Int.toNat 1) = [d] from rfl]
    by_cases h : d = c
    · subst h; simp
    · rw [decide_eq_false (by simpa using h)]
      simpa using h
theorem hasPre_ (l : List UInt8) (c : UInt8) : strings_HasPrefix.f (bs l) ⟨#[c]⟩ = some (decide (l.head? = some c)) := by
  unfold strings_HasPrefix.f
  rw [hasPre]
  rfl
theorem cutPre (l : List UInt8) (c : UInt8) : strings_CutPrefix.f (bs l) ⟨#[c]⟩ = some (if l.head? = some c then (bs l.tail, true) else (bs l, false)) := by
  unfold strings_CutPrefix.f stringslite_CutPrefix.f
  rw [hasPre, Option.bind_some, bs_size, show ((⟨#[c]⟩ : ByteArray).size : Int) = 1 from rfl]
  by_cases h : l.head? = some c
  · cases l with
    | nil => cases h
    | cons d r =>
      rw [if_pos (by simpa using h), if_pos (by omega), if_pos (by rw [List.length_cons]; omega), if_pos h]
      rw [show (Int.toNat 1) = 1 from rfl, ← bs_size (d :: r), ext_drop, Y_bs]
      rfl
  · rw [if_neg (by simpa using h), if_neg h]
    rfl

end Go.Proofs.Ythgeohdpjedhnaa.U
namespace Go.Proofs.Ythgeohdpjedhnaa.U
open Go.RowKit Go.Proofs.Ythgeohdpjedhnaa.Pr Go.Proofs.YthgeohdpjedhnaaW.PrintWords Go.Proofs.YthgeohdpjedhnaaW.PrintLast Go.Proofs.YthgeohdpjedhnaaW.PrintMore
set_option linter.unusedVariables false
set_option linter.unusedSimpArgs false
/-- One label at the front: it, and what stands behind. -/
def itm (r : List UInt8) : Option (S86 × List UInt8) := match r.drop (wl r) with
  | [] => none
  | c :: q => if c = 61 then (unqF q).map (fun p => (⟨bs (r.take (wl r)), bs p.1⟩, p.2)) else none
/-- Labels up to the brace: they, and what stands behind. -/
def items : Nat → List UInt8 → List S86 → Option (List S86 × List UInt8)
  | 0, _, _ => none
  | n + 1, r, acc => match itm r with
    | none => none
    | some (_, []) => none
    | some (x, c :: q) => if c = 125 then some (acc ++ [x], q) else if c = 44 then items n q (acc ++ [x]) else none
theorem itm_nil {r : List UInt8} (h : r.drop (wl r) = []) : itm r = none := by unfold itm; rw [h]
theorem itm_off {r q : List UInt8} {c : UInt8} (h : r.drop (wl r) = c :: q) (hc : c ≠ 61) : itm r = none := by unfold itm; rw [h]; exact if_neg hc
theorem itm_on {r q : List UInt8} (h : r.drop (wl r) = 61 :: q) : itm r = (unqF q).map (fun p => (⟨bs (r.take (wl r)), bs p.1⟩, p.2)) := by unfold itm; rw [h]; exact if_pos rfl
theorem items_none (n : Nat) {r : List UInt8} (acc : List S86) (h : itm r = none) : items (n + 1) r acc = none := by simp only [items, h]
theorem items_end (n : Nat) {r : List UInt8} (acc : List S86) {x : S86} (h : itm r = some (x, [])) : items (n + 1) r acc = none := by simp only [items, h]
theorem items_go (n : Nat) {r q : List UInt8} (acc : List S86) {x : S86} {c : UInt8} (h : itm r = some (x, c :: q)) : items (n + 1) r acc = if c = 125 then some (acc ++ [x], q) else if c = 44 then items n q (acc ++ [x]) else none := by simp only [items, h]
theorem unqF_round {l v r : List UInt8} (h : unqF l = some (v, r)) : l = quoteL v ++ r := by
  cases l with
  | nil => cases h
  | cons c l =>
    simp only [unqF] at h
    by_cases hc : c = 34
    · rw [if_pos hc] at h
      rw [unq_round l.length l (Nat.le_refl _) v r h, hc]
      simp [quoteL]
    · rw [if_neg hc] at h; cases h
theorem itm_round {r q : List UInt8} {x : S86} (h : itm r = some (x, q)) : r = itemL x ++ q := by
  cases e : r.drop (wl r) with
  | nil => rw [itm_nil e] at h; cases h
  | cons c q' =>
    by_cases hc : c = 61
    · subst hc
      rw [itm_on e] at h
      cases eu : unqF q' with
      | none => rw [eu] at h; cases h
      | some p =>
        rw [eu] at h
        obtain ⟨v, q2⟩ := p
        cases h
        rw [unqF_round eu] at e
        have h2 := List.take_append_drop (wl r) r
        rw [e] at h2
        show r = Y (bs (r.take (wl r))) ++ 61 :: quoteL (Y (bs v)) ++ q2
        rw [Y_bs, Y_bs]
        rw [List.append_assoc, List.cons_append]
        exact h2.symm
    · rw [itm_off e hc] at h; cases h
theorem escs_ge : ∀ l : List UInt8, l.length ≤ (l.flatMap esc).length := by
  intro l
  induction l with
  | nil => simp
  | cons c l ih =>
    have : 1 ≤ (esc c).length := by unfold esc; split <;> simp
    rw [List.flatMap_cons, List.length_append, List.length_cons]
    omega
theorem itm_len {r q : List UInt8} {x : S86} (h : itm r = some (x, q)) : q.length + 3 ≤ r.length ∧ x.f0.size ≤ r.length ∧ x.f1.size ≤ r.length := by
  have h1 := congrArg List.length (itm_round h)
  have h2 := escs_ge (Y x.f1)
  unfold itemL quoteL at h1
  simp only [List.length_append, List.length_cons, List.length_nil, Y_len] at h1 h2
  omega
theorem items_round : ∀ (n : Nat) (r : List UInt8) (acc l : List S86) (q : List UInt8), items n r acc = some (l, q) → ∃ x xs, l = acc ++ x :: xs ∧ r = tailT true (x :: xs) ++ q := by
  intro n
  induction n with
  | zero => intro r acc l q h; cases h
  | succ n ih =>
    intro r acc l q h
    cases e : itm r with
    | none => rw [items_none n acc e] at h; cases h
    | some p =>
      obtain ⟨x, q1⟩ := p
      cases q1 with
      | nil => rw [items_end n acc e] at h; cases h
      | cons c q1 =>
        rw [items_go n acc e] at h
        have rd := itm_round e
        by_cases h1 : c = 125
        · rw [if_pos h1] at h
          cases h
          exact ⟨x, [], rfl, by rw [rd, h1]; simp [tailT]⟩
        · rw [if_neg h1] at h
          by_cases h2 : c = 44
          · rw [if_pos h2] at h
            obtain ⟨y, ys, h3, h4⟩ := ih q1 _ l q h
            refine ⟨x, y :: ys, by rw [h3, List.append_assoc]; rfl, ?_⟩
            rw [rd, h2, h4]
            simp [tailT]
          · rw [if_neg h2] at h; cases h
def okA (acc : List S86) : Prop := ∀ x ∈ acc, x.f0.size ≤ 1048576 ∧ x.f1.size ≤ 1048576
theorem okA_app {acc : List S86} {x : S86} (h : okA acc) (h1 : x.f0.size ≤ 1048576) (h2 : x.f1.size ≤ 1048576) : okA (acc ++ [x]) := by
  intro y hy
  rcases List.mem_append.1 hy with hy | hy
  · exact h y hy
  · rw [List.mem_singleton.1 hy]; exact ⟨h1, h2⟩
theorem okA_fit {acc : List S86} (h : okA acc) (hl : acc.length ≤ 2097152) : fitL acc := ⟨by omega, fun x hx => by have := h x hx; omega⟩
def resI : Option (List S86 × List UInt8) → List S86 × ByteArray × Bool
  | some (l, q) => (l, bs q, goodL l)
  | none => ([], bs [], false)
theorem l0_close (q : List UInt8) (acc : List S86) (hA : okA acc) (ha : acc.length ≤ 2097152) : Ev (fun k => impl_takeLabels.l0 k (bs (125 :: q)) acc) (acc, bs q, goodL acc) := by
  refine ev_step (fun _ => impl_takeLabels.l0.eq_2 ..) (ev_bind (ev_eq (hasPre_ (125 :: q) 125)) (ev_pos (by simp) (ev_pos (by rw [bs_size, List.length_cons]; omega) (ev_bind (goodLabels_impl acc (okA_fit hA ha)) ?_))))
  rw [ext_drop, Y_bs]
  exact ev_now _
theorem tl_impl : ∀ (n : Nat) (r : List UInt8) (acc : List S86), r.length < n → r.length ≤ 1048576 → acc.length + r.length ≤ 2097152 → okA acc → Ev (fun k => impl_takeLabels.j1 k (bs r) acc) (resI (items n r acc)) := by
  intro n
  induction n with
  | zero => intro r acc h; omega
  | succ n ih =>
    intro r acc h hr ha hA
    have w := word_impl_l (bs r) (by rw [bs_size]; exact hr)
    rw [Y_bs] at w
    refine ev_step (fun _ => impl_takeLabels.j1.eq_2 ..) (ev_bind w ?_)
    by_cases hc : (r.drop (wl r)).head? = some 61
    · obtain ⟨q, e⟩ : ∃ q, r.drop (wl r) = 61 :: q := by
        cases e : r.drop (wl r) with
        | nil => rw [e] at hc; cases hc
        | cons c q => rw [e, List.head?_cons] at hc; cases hc; exact ⟨q, rfl⟩
      have c1 : strings_CutPrefix.f (bs (r.drop (wl r))) ⟨#[61]⟩ = some (bs q, true) := by rw [cutPre, if_pos hc, e]; rfl
      have el := congrArg List.length e
      rw [List.length_drop, List.length_cons] at el
      have uq := unquote_impl (bs q) (by rw [bs_size]; omega)
      rw [Y_bs] at uq
      refine ev_bind (ev_eq c1) (ev_pos rfl (ev_bind uq ?_))
      cases eu : unqF q with
      | none =>
        rw [items_none n acc (by rw [itm_on e, eu]; rfl)]
        exact ev_neg (by simp [unI]) (ev_now _)
      | some p =>
        obtain ⟨v, q2⟩ := p
        have it : itm r = some (⟨bs (r.take (wl r)), bs v⟩, q2) := by rw [itm_on e, eu]; rfl
        obtain ⟨g1, g2, g3⟩ := itm_len it
        have hA2 := okA_app hA (x := ⟨bs (r.take (wl r)), bs v⟩) (by omega) (by omega)
        refine ev_pos rfl (ev_pos (by omega) ?_)
        show Ev (fun k => impl_takeLabels.l0 k (bs q2) (acc ++ [⟨bs (r.take (wl r)), bs v⟩])) _
        have hlen : (acc ++ [(⟨bs (r.take (wl r)), bs v⟩ : S86)]).length = acc.length + 1 := by simp
        cases q2 with
        | nil =>
          rw [items_end n acc it]
          refine ev_step (fun _ => impl_takeLabels.l0.eq_2 ..) (ev_bind (ev_eq (hasPre_ [] 125)) (ev_neg (by simp) (ev_pos (by omega) (ev_bind (ev_eq (cutPre [] 44)) (ev_neg (by simp) (ev_now _))))))
        | cons c q2 =>
          rw [items_go n acc it]
          rw [List.length_cons] at g1
          by_cases h1 : c = 125
          · rw [if_pos h1, h1]
            exact l0_close q2 _ hA2 (by omega)
          · rw [if_neg h1]
            refine ev_step (fun _ => impl_takeLabels.l0.eq_2 ..) (ev_bind (ev_eq (hasPre_ (c :: q2) 125)) (ev_neg (by simpa using h1) (ev_pos (by omega) (ev_bind (ev_eq (cutPre (c :: q2) 44)) ?_))))
            by_cases h2 : c = 44
            · rw [if_pos h2, if_pos (by rw [h2]; rfl)]
              exact ev_pos rfl (ih q2 _ (by omega) (by omega) (by omega) hA2)
            · rw [if_neg h2, if_neg (by simpa using h2)]
              exact ev_neg (by simp) (ev_now _)
    · have c1 : strings_CutPrefix.f (bs (r.drop (wl r))) ⟨#[61]⟩ = some (bs (r.drop (wl r)), false) := by rw [cutPre, if_neg hc]
      have it : itm r = none := by
        cases e : r.drop (wl r) with
        | nil => exact itm_nil e
        | cons c q => exact itm_off e (fun h => hc (by rw [e, h]; rfl))
      rw [items_none n acc it]
      exact ev_bind (ev_eq c1) (ev_neg (by simp) (ev_now _))
def resS (s : ByteArray) : Option (List S86 × List UInt8) → List S86 × Int
  | some (l, q) => if goodL l = true then (l, (s.size : Int) - (q.length : Int)) else ([], -1)
  | none => ([], -1)
theorem tl_spec (s : ByteArray) (hs : s.size ≤ 1048576) : ∀ (n a : Nat) (acc : List S86), a ≤ s.size → s.size - a < n → acc.length + (s.size - a) ≤ 2097152 → okA acc → Ev (fun k => spec_l2Read.l0 k s (a : Int) acc) (resS s (items n ((Y s).drop a) acc)) := by
  intro n
  induction n with
  | zero => intro a acc h h'; omega
  | succ n ih =>
    intro a acc hat hn ha hA
    obtain ⟨r, er⟩ : ∃ r, r = (Y s).drop a := ⟨_, rfl⟩
    have rl : r.length = s.size - a := by rw [er, List.length_drop, Y_len]
    have hwl := wl_le r
    rw [← er]
    refine ev_step (fun _ => spec_l2Read.l0.eq_2 ..) (ev_ite (fun h20 => ?_) (fun h20 => ?_))
    · have na := nameAt_spec s hs a hat
      rw [← er] at na
      refine ev_bind na (ev_ite (fun ht => ?_) (fun ht => ev_pos (by omega) (ev_pos (by omega) ?_)))
      · rw [items_none n acc (itm_nil (List.drop_eq_nil_of_le (by omega)))]
        exact ev_step (fun _ => spec_l2Read.j3.eq_2 ..) (ev_pos rfl (ev_now _))
      · have h0 : a + wl r < s.size := by omega
        have e : r.drop (wl r) = (Y s)[a + wl r]'(by rw [Y_len]; exact h0) :: (Y s).drop (a + wl r + 1) := (show r.drop (wl r) = (Y s).drop (a + wl r) from by rw [← List.drop_drop, ← er]).trans (Y_drop h0)
        rw [bt_at h0]
        refine ev_step (fun _ => spec_l2Read.j3.eq_2 ..) (ev_ite (fun hc => ?_) (fun hc => ?_))
        · rw [bne_iff_ne, ne_eq, show ((61 : Int) = ((61 : UInt8).toNat : Int)) from rfl, u8i] at hc
          rw [items_none n acc (itm_off e hc)]
          exact ev_now _
        · rw [bne_iff_ne, ne_eq, show ((61 : Int) = ((61 : UInt8).toNat : Int)) from rfl, u8i, Decidable.not_not] at hc
          rw [hc] at e
          rw [w64n h0 (by omega)]
          refine ev_bind (unquote_spec s hs (a + wl r + 1)) ?_
          cases eu : unqF ((Y s).drop (a + wl r + 1)) with
          | none =>
            rw [items_none n acc (by rw [itm_on e, eu]; rfl)]
            exact ev_pos (by simp [unS]) (ev_step (fun _ => spec_l2Read.j4.eq_2 ..) (ev_pos rfl (ev_now _)))
          | some p =>
            obtain ⟨v, q2⟩ := p
            have it : itm r = some (⟨bs (r.take (wl r)), bs v⟩, q2) := by rw [itm_on e, eu]; rfl
            obtain ⟨g1, g2, g3⟩ := itm_len it
            have hA2 := okA_app hA (x := ⟨bs (r.take (wl r)), bs v⟩) (by omega) (by omega)
            obtain ⟨nx, en⟩ : ∃ nx : Nat, nx = s.size - q2.length := ⟨_, rfl⟩
            have eq2 : q2 = (Y s).drop nx := by
              have h1 : q2 <:+ Y s := by
                have h2 : q2 <:+ r := ⟨_, (itm_round it).symm⟩
                rw [er] at h2
                exact h2.trans (List.drop_suffix _ _)
              have h3 := List.suffix_iff_eq_drop.1 h1
              rw [Y_len, ← en] at h3
              exact h3
            have hx : unS s.size [] (some (v, q2)) = (bs v, ((nx : Nat) : Int)) := by
              show (bs ([] ++ v), (s.size : Int) - (q2.length : Int)) = _
              rw [List.nil_append, show (s.size : Int) - (q2.length : Int) = ((nx : Nat) : Int) from by omega]
            rw [hx]
            refine ev_neg (by omega) (ev_ite (fun h5 => ?_) (fun h5 => ev_pos (by omega) (ev_pos (by omega) ?_)))
            · have : q2 = [] := by rw [eq2]; exact List.drop_eq_nil_of_le (by rw [Y_len]; omega)
              rw [this] at it
              rw [items_end n acc it]
              exact ev_step (fun _ => spec_l2Read.j4.eq_2 ..) (ev_pos rfl (ev_now _))
            · have h6 : nx < s.size := by omega
              have e2 : q2 = (Y s)[nx]'(by rw [Y_len]; exact h6) :: (Y s).drop (nx + 1) := eq2.trans (Y_drop h6)
              rw [e2] at it
              rw [items_go n acc it]
              have ex : s.extract (a : Int).toNat ((a + wl r : Nat) : Int).toNat = bs (r.take (wl r)) := Y_inj (by rw [Y_ext, Y_bs, Int.toNat_natCast, Int.toNat_natCast, er, Nat.add_sub_cancel_left])
              have hlen : (acc ++ [(⟨bs (r.take (wl r)), bs v⟩ : S86)]).length = acc.length + 1 := by simp
              show Ev (fun k => if bt s (nx : Int) = 44 then spec_l2Read.j4 k s (a : Int) acc ((a + wl r : Nat) : Int) (bs v) (nx : Int) false else spec_l2Read.j4 k s (a : Int) acc ((a + wl r : Nat) : Int) (bs v) (nx : Int) ((bt s (nx : Int)) != 125)) _
              refine ev_ite (fun h7 => ?_) (fun h7 => ?_)
              · have h7' := h7
                rw [bt_at h6, show ((44 : Int) = ((44 : UInt8).toNat : Int)) from rfl, u8i] at h7'
                refine ev_step (fun _ => spec_l2Read.j4.eq_2 ..) (ev_neg (by simp) (ev_pos (by omega) (ev_pos (by omega) (ev_pos (by omega) (ev_pos (by omega) ?_)))))
                rw [ex]
                refine ev_some (ev_pos (by omega) (ev_pos (by omega) (ev_neg (by omega) ?_)))
                rw [h7', if_neg (by decide), if_pos rfl, w64n h6 (by omega)]
                exact ih (nx + 1) _ (by omega) (by omega) (by omega) hA2
              · have h7' := h7
                rw [bt_at h6, show ((44 : Int) = ((44 : UInt8).toNat : Int)) from rfl, u8i] at h7'
                refine ev_step (fun _ => spec_l2Read.j4.eq_2 ..) (ev_ite (fun h8 => ?_) (fun h8 => (ev_pos (by omega) (ev_pos (by omega) (ev_pos (by omega) (ev_pos (by omega) ?_))))))
                · rw [bne_iff_ne, ne_eq, bt_at h6, show ((125 : Int) = ((125 : UInt8).toNat : Int)) from rfl, u8i] at h8
                  rw [if_neg h8, if_neg h7']
                  exact ev_now _
                · rw [bne_iff_ne, ne_eq, Decidable.not_not] at h8
                  have h8' := h8
                  rw [bt_at h6, show ((125 : Int) = ((125 : UInt8).toNat : Int)) from rfl, u8i] at h8'
                  rw [ex]
                  refine ev_some (ev_pos (by omega) (ev_pos (by omega) (ev_pos h8 (ev_bind (goodLabels_spec _ (okA_fit hA2 (by omega))) ?_))))
                  rw [if_pos h8']
                  simp only [resS]
                  have e9 : (s.size : Int) - (((Y s).drop (nx + 1)).length : Int) = ((nx + 1 : Nat) : Int) := by rw [List.length_drop, Y_len]; omega
                  rw [e9, w64n h6 (by omega)]
                  refine ev_ite (fun h9 => ?_) (fun h9 => ?_)
                  · rw [if_pos h9]; exact ev_now _
                  · rw [if_neg h9]; exact ev_now _
    · have : resS s (items (n + 1) r acc) = ([], -1) := by
        cases e : items (n + 1) r acc with
        | none => rfl
        | some p =>
          obtain ⟨l, q⟩ := p
          obtain ⟨x, xs, h1, _⟩ := items_round _ _ _ _ _ e
          show (if goodL l = true then _ else _) = _
          rw [if_neg]
          intro hg
          have := (goodL_all hg).1
          rw [h1, List.length_append, List.length_cons] at this
          omega
      rw [this]
      exact ev_now _
/-- A whole text. -/
def readR : List UInt8 → Option (List S86 × List UInt8)
  | [] => none
  | c :: r => if c = 123 then (if r.head? = some 125 then some ([], r.tail) else items (r.length + 1) r []) else none
theorem goodL_nil : goodL [] = true := rfl
theorem okA_nil : okA [] := fun _ h => by cases h
theorem take_impl_ (s : ByteArray) (hs : s.size ≤ 1048576) : Ev (fun k => impl_takeLabels.f k s) (resI (readR (Y s))) := by
  unfold impl_takeLabels.f
  have h1 := cutPre (Y s) 123
  rw [bs_Y] at h1
  refine ev_bind (ev_eq h1) ?_
  have hl : (Y s).length = s.size := Y_len s
  cases e : Y s with
  | nil => exact ev_neg (by simp) (ev_now _)
  | cons c r =>
    rw [e, List.length_cons] at hl
    simp only [readR]
    by_cases hc : c = 123
    · rw [if_pos (by rw [hc]; rfl), if_pos hc]
      refine ev_pos rfl ?_
      show Ev (fun k => impl_takeLabels.l0 k (bs r) []) _
      by_cases h2 : r.head? = some 125
      · obtain ⟨q, rfl⟩ : ∃ q, r = 125 :: q := by
          cases r with
          | nil => cases h2
          | cons d q => cases h2; exact ⟨q, rfl⟩
        rw [if_pos h2]
        exact l0_close q [] okA_nil (by simp)
      · rw [if_neg h2]
        refine ev_step (fun _ => impl_takeLabels.l0.eq_2 ..) (ev_bind (ev_eq (hasPre_ r 125)) (ev_neg (by simpa using h2) (ev_neg (by simp) ?_)))
        exact tl_impl (r.length + 1) r [] (by omega) (by omega) (by simp; omega) okA_nil
    · rw [if_neg (by simpa using hc), if_neg hc]
      exact ev_neg (by simp) (ev_now _)
theorem read_spec_ (s : ByteArray) (hs : s.size ≤ 1048576) : Ev (fun k => spec_l2Read.f k s 0) (resS s (readR (Y s))) := by
  unfold spec_l2Read.f
  refine ev_ite (fun h => ?_) (fun h => ev_pos (by omega) (ev_pos (by omega) ?_))
  · rw [Y_nil (by omega)]
    exact ev_step (fun _ => spec_l2Read.j0.eq_2 ..) (ev_pos rfl (ev_now _))
  · have h0 : 0 < s.size := by omega
    have ey := Y_cons h0
    have hr : ((Y s).drop 1).length = s.size - 1 := by rw [List.length_drop, Y_len]
    have hw : wrap64 ((0 : Int) + 1) = ((1 : Nat) : Int) := by rw [w64 (by omega) (by omega)]; rfl
    rw [ey]
    simp only [readR]
    rw [show bt s 0 = bt s ((0 : Nat) : Int) from rfl, bt_at h0]
    refine ev_step (fun _ => spec_l2Read.j0.eq_2 ..) (ev_ite (fun hc => ?_) (fun hc => ?_))
    · rw [bne_iff_ne, ne_eq, show ((123 : Int) = ((123 : UInt8).toNat : Int)) from rfl, u8i] at hc
      rw [if_neg hc]
      exact ev_now _
    · rw [bne_iff_ne, ne_eq, show ((123 : Int) = ((123 : UInt8).toNat : Int)) from rfl, u8i, Decidable.not_not] at hc
      rw [if_pos hc, hw]
      have key := tl_spec s hs (((Y s).drop 1).length + 1) 1 [] (by omega) (by omega) (by simp; omega) okA_nil
      refine ev_ite (fun h1 => ev_pos (by omega) ?_) (fun h1 => ?_)
      · have h2 : 1 < s.size := by omega
        have e1 := Y_drop h2
        rw [bt_at h2]
        refine ev_step (fun _ => spec_l2Read.j1.eq_2 ..) (ev_ite (fun hd => ?_) (fun hd => ?_))
        · rw [beq_iff_eq, show ((125 : Int) = ((125 : UInt8).toNat : Int)) from rfl, u8i] at hd
          rw [e1, hd, List.head?_cons, if_pos rfl]
          simp only [resS]
          rw [if_pos goodL_nil, List.tail_cons, List.length_drop, Y_len]
          have : wrap64 (((1 : Nat) : Int) + 1) = (s.size : Int) - ((s.size - (1 + 1) : Nat) : Int) := by rw [w64 (by omega) (by omega)]; omega
          rw [this]
          exact ev_now _
        · rw [beq_iff_eq, show ((125 : Int) = ((125 : UInt8).toNat : Int)) from rfl, u8i] at hd
          rw [if_neg (by rw [e1]; simpa using hd)]
          exact key
      · have e1 : (Y s).drop 1 = [] := List.drop_eq_nil_of_le (by rw [Y_len]; omega)
        rw [if_neg (by rw [e1]; simp)]
        exact ev_step (fun _ => spec_l2Read.j1.eq_2 ..) (ev_neg (by simp) key)
theorem readR_round {t : List UInt8} {l : List S86} {q : List UInt8} (h : readR t = some (l, q)) : t = textL l ++ q := by
  cases t with
  | nil => cases h
  | cons c r =>
    simp only [readR] at h
    by_cases hc : c = 123
    · rw [if_pos hc] at h
      by_cases h2 : r.head? = some 125
      · rw [if_pos h2] at h
        cases h
        cases r with
        | nil => cases h2
        | cons d q => cases h2; rw [hc]; rfl
      · rw [if_neg h2] at h
        obtain ⟨x, xs, h3, h4⟩ := items_round _ _ _ _ _ h
        rw [List.nil_append] at h3
        rw [h3, hc, h4]
        rfl
    · rw [if_neg hc] at h; cases h
/-- What ReadLabels tells. -/
def readL (s : ByteArray) : List S86 × Bool := match readR (Y s) with
  | some (l, []) => if goodL l = true then (l, true) else ([], false)
  | _ => ([], false)
theorem readLabels_spec (s : ByteArray) (hs : s.size ≤ 1048576) : Ev (fun k => spec_ReadLabels.f k s) (readL s) := by
  unfold spec_ReadLabels.f readL
  have rs := read_spec_ s hs
  cases e : readR (Y s) with
  | none =>
    rw [e] at rs
    exact ev_bind rs (ev_neg (by simp only [resS]; omega) (ev_now _))
  | some p =>
    obtain ⟨l, q⟩ := p
    have hl := congrArg List.length (readR_round e)
    rw [List.length_append, Y_len] at hl
    rw [e] at rs
    simp only [resS] at rs
    by_cases hg : goodL l = true
    · rw [if_pos hg] at rs
      refine ev_bind rs ?_
      cases q with
      | nil =>
        show Ev _ (if goodL l = true then _ else _)
        rw [if_pos hg]
        exact ev_pos (by simp) (ev_now _)
      | cons c q => exact ev_neg (by simp only [List.length_cons]; omega) (ev_now _)
    · rw [if_neg hg] at rs
      refine ev_bind rs ?_
      cases q with
      | nil =>
        show Ev _ (if goodL l = true then _ else _)
        rw [if_neg hg]
        exact ev_neg (by show ¬ (-1 : Int) = _; omega) (ev_now _)
      | cons c q => exact ev_neg (by show ¬ (-1 : Int) = _; omega) (ev_now _)
theorem readLabels_impl (s : ByteArray) (hs : s.size ≤ 1048576) : Ev (fun k => impl_ReadLabels.f k s) (readL s) := by
  unfold impl_ReadLabels.f readL
  have ti := take_impl_ s hs
  cases e : readR (Y s) with
  | none =>
    rw [e] at ti
    exact ev_bind ti (ev_neg (by simp [resI]) (ev_now _))
  | some p =>
    obtain ⟨l, q⟩ := p
    have rr := readR_round e
    rw [e] at ti
    refine ev_bind ti ?_
    by_cases hg : goodL l = true
    · refine ev_pos hg ?_
      cases q with
      | nil =>
        show Ev _ (if goodL l = true then _ else _)
        rw [if_pos hg]
        obtain ⟨g1, g2⟩ := goodL_all hg
        have tx := text_impl l ⟨by omega, fun x hx => by have := g2 x hx; omega⟩
        unfold textOf at tx
        rw [if_pos hg] at tx
        refine ev_pos (by show (bs []).toList = []; rw [Y_eq, Y_bs]) (ev_bind tx (ev_pos ?_ (ev_now _)))
        rw [Y_eq, Y_eq, Y_bs, rr, List.append_nil]
      | cons c q => exact ev_neg (by show ¬ (bs (c :: q)).toList = []; rw [Y_eq, Y_bs]; simp) (ev_now _)
    · refine ev_neg hg ?_
      cases q with
      | nil =>
        show Ev _ (if goodL l = true then _ else _)
        rw [if_neg hg]
        exact ev_now _
      | cons c q => exact ev_now _
theorem readL_len (s : ByteArray) : (readL s).1.length ≤ 20 := by
  unfold readL
  split
  · split
    · rename_i h; exact (goodL_all h).1
    · simp
  · simp

end Go.Proofs.Ythgeohdpjedhnaa.U
namespace Go.Proofs.Ythgeohdpjedhnaa.U
open Go.RowKit Go.Proofs.Ythgeohdpjedhnaa.Pr Go.Proofs.YthgeohdpjedhnaaW.PrintWords Go.Proofs.YthgeohdpjedhnaaW.PrintLast Go.Proofs.YthgeohdpjedhnaaW.PrintMore
set_option linter.unusedVariables false
set_option linter.unusedSimpArgs false
def sm84 (x : S84) : Prop := x.f0.size ≤ 1048576 ∧ x.f1.size ≤ 1048576
def cv84 (x : S84) : S86 := ⟨x.f0, x.f1⟩
theorem toLabel (x : S84) (hx : sm84 x) : Ev (fun _ => laws_toLabel.f x.f0 x.f1) (x.f0, x.f1) := by
  obtain ⟨h0, h1⟩ := hx
  unfold laws_toLabel.f
  exact ev_now _
theorem eqLabel (x : S86) : Ev (fun _ => laws_eqLabel.f x.f0 x.f1 x.f0 x.f1) true := ev_eq (by simp [laws_eqLabel.f])
def sw84 (x : S84) : Prop := (x.f0.size ≤ maxLen) ∧ (x.f1.size ≤ maxLen)
theorem szLabel (x : S84) (c : Int) (h0 : 0 ≤ c) (h1 : c ≤ 1048576) (hw : sw84 x) : ∃ r, Ev (fun _ => laws_szLabel.f x.f0 x.f1 c) r ∧ r ≤ c ∧ (0 ≤ r → sm84 x) := by
  obtain ⟨w0, w1⟩ := hw
  unfold laws_szLabel.f
  simp only [maxLen] at w0
  rw [w64 (x := c - (x.f0.size : Int)) (by omega) (by omega)]
  by_cases n0 : c - (x.f0.size : Int) < 0
  · exact ⟨-1, ev_pos n0 (ev_now _), by omega, fun h => absurd h (by decide)⟩
  · skip
    simp only [maxLen] at w1
    rw [w64 (x := (c - (x.f0.size : Int)) - (x.f1.size : Int)) (by omega) (by omega)]
    by_cases n1 : (c - (x.f0.size : Int)) - (x.f1.size : Int) < 0
    · exact ⟨-1, ev_neg n0 (ev_pos n1 (ev_now _)), by omega, fun h => absurd h (by decide)⟩
    · skip
      exact ⟨_, ev_neg n0 (ev_neg n1 (ev_now _)), by omega, fun _ => ⟨by omega, by omega⟩⟩

end Go.Proofs.Ythgeohdpjedhnaa.U
namespace Go.Proofs.Ythgeohdpjedhnaa.U
open Go.RowKit Go.Proofs.Ythgeohdpjedhnaa.Pr Go.Proofs.YthgeohdpjedhnaaW.PrintWords Go.Proofs.YthgeohdpjedhnaaW.PrintLast Go.Proofs.YthgeohdpjedhnaaW.PrintMore
set_option linter.unusedVariables false
set_option linter.unusedSimpArgs false
theorem markText_l (m : Nat) : ∀ (c : Int) (s : ByteArray), 0 ≤ c → c < 10 ^ m → c ≤ 9223372036854775807 → s.size + m < 1000 → ∃ r, Ev (fun k => laws_markText.l0 k c s) r := by
  induction m with
  | zero =>
    intro c s h0 h1 _ h2
    simp at h1
    have hs : 1 + s.size ≤ 9223372036854775807 := by omega
    exact ⟨_, ev_step (fun _ => laws_markText.l0.eq_2 ..) (ev_neg (by omega) (ev_pos hs (ev_now _)))⟩
  | succ m ih =>
    intro c s h0 h1 h1' h2
    by_cases hc : c > 0
    · rw [Int.pow_succ] at h1
      have e : wrap64 (Int.tdiv c 10) = c / 10 := by rw [Int.tdiv_eq_ediv_of_nonneg h0, w64 (by omega) (by omega)]
      have hz : ∀ x : Int, (strOfNums [x]).size = 1 := fun x => strOfNums_size [x]
      obtain ⟨r, hr⟩ := ih (c / 10) (strOfNums [wrap64 (48 + Int.tmod c 10) % 256] ++ s) (by omega) (by generalize (10 : Int) ^ m = p at h1 ⊢; omega) (by omega) (by rw [ByteArray.size_append, hz]; omega)
      refine ⟨r, ev_step (fun _ => laws_markText.l0.eq_2 ..) (ev_pos hc (ev_some (ev_pos (by rw [hz]; omega) ?_)))⟩
      rw [e]
      exact hr
    · have hs : 1 + s.size ≤ 9223372036854775807 := by omega
      exact ⟨_, ev_step (fun _ => laws_markText.l0.eq_2 ..) (ev_neg hc (ev_pos hs (ev_now _)))⟩
theorem markText (c : Int) (h0 : 0 < c) (h1 : c ≤ 9223372036854775807) : ∃ r, Ev (fun k => laws_markText.f k c) r := by
  obtain ⟨r, hr⟩ := markText_l 19 c ⟨#[]⟩ (by omega) (Int.lt_of_le_of_lt h1 (by decide)) h1 (by decide)
  refine ⟨r, ?_⟩
  unfold laws_markText.f
  exact ev_neg (by omega) hr

end Go.Proofs.Ythgeohdpjedhnaa.U
namespace Go.Proofs.Ythgeohdpjedhnaa.U
open Go.RowKit Go.Proofs.Ythgeohdpjedhnaa.Pr Go.Proofs.YthgeohdpjedhnaaW.PrintWords Go.Proofs.YthgeohdpjedhnaaW.PrintLast Go.Proofs.YthgeohdpjedhnaaW.PrintMore
set_option linter.unusedVariables false
set_option linter.unusedSimpArgs false
theorem toLabelS (l : List (S84)) (hl : (l.length ≤ 1048576 ∧ ∀ y ∈ l, sm84 y)) : Ev (fun k => laws_toLabelS.f k l) (l.map cv84) := by
  obtain ⟨hl, hs⟩ := hl
  unfold laws_toLabelS.f
  repeat (first | (with_reducible refine ev_pos (by first | omega | rfl | decide) ?_) | (with_reducible refine ev_neg (by first | omega | decide) ?_))
  have key := ev_copy (F := fun k y i => laws_toLabelS.l0 k l y i) cv84 l (List.replicate ((l.length : Int) : Int).toNat z86) (by simp) ?step ?done
  case step =>
    intro i h y r hy hr
    refine ev_step (fun _ => laws_toLabelS.l0.eq_2 ..) ?_
    repeat (first | (with_reducible refine ev_pos (by first | omega | rfl | decide) ?_) | (with_reducible refine ev_neg (by first | omega | decide) ?_))
    rw [(show rd_T84 l (i : Int) = l[i] from getD_lt h)]
    refine ev_bind (toLabel l[i] (hs _ (List.getElem_mem h))) ?_
    repeat (first | (with_reducible refine ev_pos (by first | omega | rfl | decide) ?_) | (with_reducible refine ev_neg (by first | omega | decide) ?_))
    rw [w64n h (by omega), Int.toNat_natCast]
    exact hr
  case done =>
    intro y hy
    refine ev_step (fun _ => laws_toLabelS.l0.eq_2 ..) ?_
    repeat (first | (with_reducible refine ev_pos (by first | omega | rfl | decide) ?_) | (with_reducible refine ev_neg (by first | omega | decide) ?_))
    exact ev_now _
  exact key
theorem eqLabelS (l : List (S86)) (hl : l.length ≤ 1048576) : Ev (fun k => laws_eqLabelS.f k l l) true := by
  unfold laws_eqLabelS.f
  refine ev_pos rfl ?_
  refine up_ind l.length (fun i => Ev (fun k => laws_eqLabelS.l0 k l l (i : Int)) true) ?_ ?_ 0 (by omega)
  · refine ev_step (fun _ => laws_eqLabelS.l0.eq_2 ..) ?_
    refine ev_neg (by omega) ?_
    exact ev_now _
  · intro i h ih
    refine ev_step (fun _ => laws_eqLabelS.l0.eq_2 ..) ?_
    repeat (first | (with_reducible refine ev_pos (by first | omega | rfl | decide) ?_) | (with_reducible refine ev_neg (by first | omega | decide) ?_))
    refine ev_bind (eqLabel _) ?_
    refine ev_pos rfl ?_
    rw [w64n h (by omega)]
    exact ih
theorem szLabelS (l : List (S84)) (c : Int) (h0 : 0 ≤ c) (h1 : c ≤ 1048576) (hl : l.length ≤ maxLen) (hw : ∀ x ∈ l, sw84 x) : ∃ r, Ev (fun k => laws_szLabelS.f k l c) r ∧ r ≤ c ∧ (0 ≤ r → (l.length ≤ 1048576 ∧ ∀ y ∈ l, sm84 y)) := by
  simp only [maxLen] at hl
  unfold laws_szLabelS.f
  rw [w64 (x := c - (l.length : Int)) (by omega) (by omega)]
  by_cases hn : c - (l.length : Int) < 0
  · exact ⟨-1, ev_pos hn (ev_now _), by omega, fun h => absurd h (by decide)⟩
  · have key := up_ind l.length (fun i => ∀ c : Int, 0 ≤ c → c ≤ 1048576 → ∃ r, Ev (fun k => laws_szLabelS.l0 k l c (i : Int)) r ∧ r ≤ c ∧ (0 ≤ r → ∀ j (h : j < l.length), i ≤ j → sm84 l[j])) ?d ?s 0 (by omega) (c - (l.length : Int)) (by omega) (by omega)
    case d => exact fun c h0 h1 => ⟨c, ev_step (fun _ => laws_szLabelS.l0.eq_2 ..) (ev_neg (by omega) (ev_now _)), Int.le_refl _, fun _ j h hj => by omega⟩
    case s =>
      intro i h ih c h0 h1
      obtain ⟨r1, e1, hr1, hs1⟩ := szLabel l[i] c h0 h1 (hw _ (List.getElem_mem h))
      by_cases hr : r1 < 0
      · refine ⟨-1, ev_step (fun _ => laws_szLabelS.l0.eq_2 ..) ?_, by omega, fun h => absurd h (by decide)⟩
        repeat (first | (with_reducible refine ev_pos (by first | omega | rfl | decide) ?_) | (with_reducible refine ev_neg (by first | omega | decide) ?_))
        rw [(show rd_T84 l (i : Int) = l[i] from getD_lt h)]
        exact ev_bind e1 (ev_pos hr (ev_now _))
      · obtain ⟨r, e, hrc, hs⟩ := ih (r1) (by omega) (by omega)
        refine ⟨r, ev_step (fun _ => laws_szLabelS.l0.eq_2 ..) ?_, by omega, fun h2 j hj hij => ?_⟩
        · repeat (first | (with_reducible refine ev_pos (by first | omega | rfl | decide) ?_) | (with_reducible refine ev_neg (by first | omega | decide) ?_))
          rw [(show rd_T84 l (i : Int) = l[i] from getD_lt h)]
          refine ev_bind e1 (ev_neg hr ?_)
          rw [w64n h (by omega)]
          exact e
        · by_cases ej : j = i
          · subst ej
            exact hs1 (by omega)
          · exact hs h2 j hj (by omega)
    obtain ⟨r, e, hrc, hs⟩ := key
    refine ⟨r, ev_neg hn e, by omega, fun h => ⟨by omega, fun y hy => ?_⟩⟩
    obtain ⟨j, hj, rfl⟩ := List.getElem_of_mem hy
    exact hs h j hj (by omega)
theorem markLabelS (l : List (S86)) (hl : l.length ≤ 1048576) (c : Int) (h0 : 0 < c) (h1 : c ≤ 4611686018427387904) : ∃ y c', Ev (fun k => laws_markLabelS.f k l c) (c', y) ∧ Ev (fun k => laws_heldLabelS.f k y c) c' ∧ c ≤ c' ∧ c' ≤ c + 2 * l.length := by
  have key := up_ind l.length (fun i => ∀ (x : List (S86)) (c : Int), x.length = l.length → 0 < c → c + 2 * (l.length - i : Nat) ≤ 9000000000000000000 → ∃ y c', Ev (fun k => laws_markLabelS.l0 k x c (i : Int)) (c', y) ∧ Ev (fun k => laws_heldLabelS.l0 k y c (i : Int)) c' ∧ y.length = l.length ∧ (∀ j, j < i → y[j]? = x[j]?) ∧ c ≤ c' ∧ c' ≤ c + 2 * (l.length - i : Nat)) ?d ?s 0 (by omega) l c rfl h0 (by omega)
  case d =>
    intro x c hx h0 h1
    refine ⟨x, c, ev_step (fun _ => laws_markLabelS.l0.eq_2 ..) (ev_neg (by omega) (ev_now _)), ev_step (fun _ => laws_heldLabelS.l0.eq_2 ..) (ev_neg (by omega) (ev_now _)), hx, fun _ _ => rfl, by omega, by omega⟩
  case s =>
    intro i h ih x c hx h0 h1
    obtain ⟨s0, es0⟩ := markText (c) (by omega) (by omega)
    obtain ⟨s1, es1⟩ := markText (c + 1) (by omega) (by omega)
    have w1 : wrap64 (c + 1) = c + 1 := (w64 (by omega) (by omega)).trans (by omega)
    have w2 : wrap64 ((c + 1) + 1) = c + 2 := (w64 (by omega) (by omega)).trans (by omega)
    have wi : wrap64 ((i : Int) + 1) = ((i + 1 : Nat) : Int) := w64n h (by omega)
    have hset : ∀ a, rd_T86 (x.set i a) (i : Int) = a := fun a => by rw [show rd_T86 (x.set i a) (i : Int) = (x.set i a)[i]'(by simp; omega) from getD_lt (by simp; omega)]; simp
    obtain ⟨y, c', e1, e2, hy, hj, q1, q2⟩ := ih (x.set i ⟨s0, s1⟩) (c + 2) (by simp [hx]) (by omega) (by omega)
    refine ⟨y, c', ev_step (fun _ => laws_markLabelS.l0.eq_2 ..) ?_, ev_step (fun _ => laws_heldLabelS.l0.eq_2 ..) ?_, hy, fun j h' => ?_, by omega, by omega⟩
    · simp only [w1, w2, wi, Int.toNat_natCast]
      repeat (first | (with_reducible refine ev_pos (by first | omega | rfl | decide) ?_) | (with_reducible refine ev_some ?_) | (with_reducible refine ev_bind es0 ?_) | (with_reducible refine ev_bind es1 ?_))
      simp only [hset, List.set_set]
      exact e1
    · have ey : rd_T86 y (i : Int) = ⟨s0, s1⟩ := by
        have := hj i (by omega)
        rw [List.getElem?_set_self (by omega), List.getElem?_eq_getElem (by omega)] at this
        rw [show rd_T86 y (i : Int) = y[i]'(by omega) from getD_lt (by omega)]
        exact Option.some.inj this
      simp only [ey, w1, w2, wi]
      repeat (first | (with_reducible refine ev_pos (by first | omega | rfl | decide) ?_) | (with_reducible refine ev_bind es0 ?_) | (with_reducible refine ev_bind es1 ?_))
      exact e2
    · rw [hj j (by omega), List.getElem?_set_ne (by omega)]
  obtain ⟨y, c', e1, e2, _, _, q1, q2⟩ := key
  exact ⟨y, c', e1, e2, q1, by omega⟩

end Go.Proofs.Ythgeohdpjedhnaa.U
