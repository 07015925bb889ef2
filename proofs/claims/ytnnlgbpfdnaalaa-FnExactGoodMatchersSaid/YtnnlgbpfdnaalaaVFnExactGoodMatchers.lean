/- Plain lemmas over the printed functions, for the law FnExactGoodMatchers; each theorem states its own conditions. -/
import Derived.Test.YtnnlgbpfdnaalaaPrx0
import Derived.Test.YtnnlgbpfdnaalaaPrxg3e55en1
import Derived.Test.YtnnlgbpfdnaalaaPrxg7b2f3n1
import Derived.Test.YtnnlgbpfdnaalaaPrxg84e39n1
import Derived.Test.YtnnlgbpfdnaalaaPrxgd1321n1
namespace Go.Proofs.Ytnnlgbpfdnaalaa.U
open Go.RowKit Go.Proofs.Ytnnlgbpfdnaalaa.Pr Go.Proofs.YtnnlgbpfdnaalaaW.PrintWords Go.Proofs.YtnnlgbpfdnaalaaW.PrintLast Go.Proofs.YtnnlgbpfdnaalaaW.PrintMore
set_option linter.unusedVariables false
set_option linter.unusedSimpArgs false
/-! Words for plain proofs over the printed functions: from some number of rounds on; loops that go up; ranges. -/
theorem w64 {x : Int} (h0 : -9223372036854775808 ≤ x) (h1 : x ≤ 9223372036854775807) : wrap64 x = x := by unfold wrap64; omega
theorem w64n {i n : Nat} (h : i < n) (hn : n ≤ 9223372036854775807) : wrap64 ((i : Int) + 1) = ((i + 1 : Nat) : Int) := by unfold wrap64; omega
theorem wu64 (n : Int) : IntKind.u64.wrap n = n % 18446744073709551616 := by simp [IntKind.wrap, IntKind.bits, IntKind.signed]
theorem bu64 (op : BinOp) (x y : Int) : 0 ≤ bits op .u64 x y ∧ bits op .u64 x y < 18446744073709551616 := by
  unfold bits
  simp only [wu64]
  omega
theorem bu32 (op : BinOp) (x y : Int) : 0 ≤ bits op .u32 x y ∧ bits op .u32 x y < 4294967296 := by
  unfold bits
  simp only [IntKind.wrap_u32]
  omega
theorem or_comm_ (k : IntKind) (x y : Int) : bits .or k x y = bits .or k y x := by
  simp only [bits, BitVec.or_comm]
theorem ev_now {α : Type} (r : α) : Ev (fun _ => some r) r := Ev.now r
theorem ev_eq {α : Type} {g : Option α} {r : α} (h : g = some r) : Ev (fun _ => g) r := ⟨0, fun _ _ => h⟩
theorem ev_pos {α : Type} {c : Prop} [Decidable c] {a b : Nat → Option α} {r : α} (h : c) (e : Ev a r) : Ev (fun k => if c then a k else b k) r := by
  obtain ⟨K, e⟩ := e
  exact ⟨K, fun k hk => (if_pos h).trans (e k hk)⟩
theorem ev_neg {α : Type} {c : Prop} [Decidable c] {a b : Nat → Option α} {r : α} (h : ¬ c) (e : Ev b r) : Ev (fun k => if c then a k else b k) r := by
  obtain ⟨K, e⟩ := e
  exact ⟨K, fun k hk => (if_neg h).trans (e k hk)⟩
theorem ev_ite {α : Type} {c : Prop} [Decidable c] {a b : Nat → Option α} {r : α} (h : c → Ev a r) (h' : ¬ c → Ev b r) : Ev (fun k => if c then a k else b k) r := by
  by_cases hc : c
  · exact ev_pos hc (h hc)
  · exact ev_neg hc (h' hc)
theorem ev_bind {α β : Type} {g : Nat → Option α} {f : Nat → α → Option β} {a : α} {r : β} (h : Ev g a) (k : Ev (fun n => f n a) r) : Ev (fun n => (g n).bind (f n)) r := Ev.bind h k
theorem ev_some {α β : Type} {f : Nat → α → Option β} {a : α} {r : β} (k : Ev (fun n => f n a) r) : Ev (fun n => (some a).bind (f n)) r := Ev.bind (Ev.now a) k
theorem ev_step {α : Type} {g f : Nat → Option α} {r : α} (h : ∀ k, g (k + 1) = f k) (k : Ev f r) : Ev g r := Ev.step h k
theorem ev_one {α : Type} {g : Nat → Option α} {r q : α} (h : Ev g r) (h' : Ev g q) : r = q := by
  obtain ⟨K, h⟩ := h
  obtain ⟨K', h'⟩ := h'
  exact Option.some.inj ((h (max K K') (Nat.le_max_left _ _)).symm.trans (h' _ (Nat.le_max_right _ _)))
/-- What holds at the end and goes down a round, holds at each round. -/
theorem up_ind (n : Nat) (Q : Nat → Prop) (done : Q n) (step : ∀ i, i < n → Q (i + 1) → Q i) : ∀ i, i ≤ n → Q i := by
  have key : ∀ d i, i + d = n → Q i := by
    intro d
    induction d with
    | zero =>
      intro i h
      have e : i = n := by omega
      rw [e]
      exact done
    | succ d ih => intro i h; exact step i (by omega) (ih (i + 1) (by omega))
  exact fun i h => key (n - i) i (by omega)
theorem getD_lt {α : Type} {l : List α} {d : α} {i : Nat} (h : i < l.length) : l.getD ((i : Int).toNat) d = l[i] := by
  rw [Int.toNat_natCast, List.getD_eq_getElem?_getD, List.getElem?_eq_getElem h]
  rfl
theorem rd_at {l : List Int} {i : Nat} (h : i < l.length) : rd l (i : Int) = l[i] := getD_lt h
theorem rdOf_at {α : Type} {d : α} {l : List α} {i : Nat} (h : i < l.length) : rdOf d l (i : Int) = l[i] := getD_lt h
/-- A loop that writes a row anew, element by element. -/
theorem ev_copy {α β : Type} (F : Nat → List β → Int → Option (List β)) (cv : α → β) (l : List α) (x : List β) (hx : x.length = l.length)
    (step : ∀ (i : Nat) (h : i < l.length) (y r : List β), y.length = l.length → Ev (fun k => F k (y.set i (cv l[i])) ((i + 1 : Nat) : Int)) r → Ev (fun k => F k y (i : Int)) r)
    (done : ∀ y : List β, y.length = l.length → Ev (fun k => F k y (l.length : Int)) y) : Ev (fun k => F k x 0) (l.map cv) := by
  refine up_ind l.length (fun i => ∀ y : List β, y.length = l.length → (∀ j, j < i → y[j]? = (l.map cv)[j]?) → Ev (fun k => F k y (i : Int)) (l.map cv)) ?_ ?_ 0 (by omega) x hx (fun j hj => by omega)
  · intro y hy h
    have e : y = l.map cv := by
      apply List.ext_getElem?
      intro j
      by_cases hj : j < l.length
      · exact h j hj
      · rw [List.getElem?_eq_none (by omega), List.getElem?_eq_none (by simp; omega)]
    have d := done y hy
    rw [e] at d ⊢
    exact d
  · intro i hi ih y hy h
    refine step i hi y _ hy (ih _ (by simp [hy]) (fun j hj => ?_))
    by_cases e : j = i
    · subst e
      rw [List.getElem?_set_self (by omega), List.getElem?_map, List.getElem?_eq_getElem hi]
      rfl
    · rw [List.getElem?_set_ne (Ne.symm e)]
      exact h j (by omega)

end Go.Proofs.Ytnnlgbpfdnaalaa.U
namespace Go.Proofs.Ytnnlgbpfdnaalaa.U
open Go.RowKit Go.Proofs.Ytnnlgbpfdnaalaa.Pr Go.Proofs.YtnnlgbpfdnaalaaW.PrintWords Go.Proofs.YtnnlgbpfdnaalaaW.PrintLast Go.Proofs.YtnnlgbpfdnaalaaW.PrintMore
set_option linter.unusedVariables false
set_option linter.unusedSimpArgs false
def sm86 (x : S86) : Prop := x.f0.size ≤ 1048576 ∧ x.f2.size ≤ 1048576
def cv86 (x : S86) : S87 := ⟨x.f0, x.f1, x.f2⟩
theorem toMatcher (x : S86) (hx : sm86 x) : Ev (fun _ => laws_toMatcher.f x.f0 x.f1 x.f2) (x.f0, x.f1, x.f2) := by
  obtain ⟨h0, h2⟩ := hx
  unfold laws_toMatcher.f
  exact ev_now _
theorem eqMatcher (x : S87) : Ev (fun _ => laws_eqMatcher.f x.f0 x.f1 x.f2 x.f0 x.f1 x.f2) true := ev_eq (by simp [laws_eqMatcher.f])
def sw86 (x : S86) : Prop := (x.f0.size ≤ maxLen) ∧ (x.f2.size ≤ maxLen)
theorem szMatcher (x : S86) (c : Int) (h0 : 0 ≤ c) (h1 : c ≤ 1048576) (hw : sw86 x) : ∃ r, Ev (fun _ => laws_szMatcher.f x.f0 x.f1 x.f2 c) r ∧ r ≤ c ∧ (0 ≤ r → sm86 x) := by
  obtain ⟨w0, w2⟩ := hw
  unfold laws_szMatcher.f
  simp only [maxLen] at w0
  rw [w64 (x := c - (x.f0.size : Int)) (by omega) (by omega)]
  by_cases n0 : c - (x.f0.size : Int) < 0
  · exact ⟨-1, ev_pos n0 (ev_now _), by omega, fun h => absurd h (by decide)⟩
  · skip
    simp only [maxLen] at w2
    rw [w64 (x := (c - (x.f0.size : Int)) - (x.f2.size : Int)) (by omega) (by omega)]
    by_cases n2 : (c - (x.f0.size : Int)) - (x.f2.size : Int) < 0
    · exact ⟨-1, ev_neg n0 (ev_pos n2 (ev_now _)), by omega, fun h => absurd h (by decide)⟩
    · skip
      exact ⟨_, ev_neg n0 (ev_neg n2 (ev_now _)), by omega, fun _ => ⟨by omega, by omega⟩⟩

end Go.Proofs.Ytnnlgbpfdnaalaa.U
namespace Go.Proofs.Ytnnlgbpfdnaalaa.U
open Go.RowKit Go.Proofs.Ytnnlgbpfdnaalaa.Pr Go.Proofs.YtnnlgbpfdnaalaaW.PrintWords Go.Proofs.YtnnlgbpfdnaalaaW.PrintLast Go.Proofs.YtnnlgbpfdnaalaaW.PrintMore
set_option linter.unusedVariables false
set_option linter.unusedSimpArgs false
theorem toMatcherS (l : List (S86)) (hl : (l.length ≤ 1048576 ∧ ∀ y ∈ l, sm86 y)) : Ev (fun k => laws_toMatcherS.f k l) (l.map cv86) := by
  obtain ⟨hl, hs⟩ := hl
  unfold laws_toMatcherS.f
  repeat (first | (with_reducible refine ev_pos (by first | omega | rfl | decide) ?_) | (with_reducible refine ev_neg (by first | omega | decide) ?_))
  have key := ev_copy (F := fun k y i => laws_toMatcherS.l0 k l y i) cv86 l (List.replicate ((l.length : Int) : Int).toNat z87) (by simp) ?step ?done
  case step =>
    intro i h y r hy hr
    refine ev_step (fun _ => laws_toMatcherS.l0.eq_2 ..) ?_
    repeat (first | (with_reducible refine ev_pos (by first | omega | rfl | decide) ?_) | (with_reducible refine ev_neg (by first | omega | decide) ?_))
    rw [(show rd_T86 l (i : Int) = l[i] from getD_lt h)]
    refine ev_bind (toMatcher l[i] (hs _ (List.getElem_mem h))) ?_
    repeat (first | (with_reducible refine ev_pos (by first | omega | rfl | decide) ?_) | (with_reducible refine ev_neg (by first | omega | decide) ?_))
    rw [w64n h (by omega), Int.toNat_natCast]
    exact hr
  case done =>
    intro y hy
    refine ev_step (fun _ => laws_toMatcherS.l0.eq_2 ..) ?_
    repeat (first | (with_reducible refine ev_pos (by first | omega | rfl | decide) ?_) | (with_reducible refine ev_neg (by first | omega | decide) ?_))
    exact ev_now _
  exact key
theorem eqMatcherS (l : List (S87)) (hl : l.length ≤ 1048576) : Ev (fun k => laws_eqMatcherS.f k l l) true := by
  unfold laws_eqMatcherS.f
  refine ev_pos rfl ?_
  refine up_ind l.length (fun i => Ev (fun k => laws_eqMatcherS.l0 k l l (i : Int)) true) ?_ ?_ 0 (by omega)
  · refine ev_step (fun _ => laws_eqMatcherS.l0.eq_2 ..) ?_
    refine ev_neg (by omega) ?_
    exact ev_now _
  · intro i h ih
    refine ev_step (fun _ => laws_eqMatcherS.l0.eq_2 ..) ?_
    repeat (first | (with_reducible refine ev_pos (by first | omega | rfl | decide) ?_) | (with_reducible refine ev_neg (by first | omega | decide) ?_))
    refine ev_bind (eqMatcher _) ?_
    refine ev_pos rfl ?_
    rw [w64n h (by omega)]
    exact ih
theorem szMatcherS (l : List (S86)) (c : Int) (h0 : 0 ≤ c) (h1 : c ≤ 1048576) (hl : l.length ≤ maxLen) (hw : ∀ x ∈ l, sw86 x) : ∃ r, Ev (fun k => laws_szMatcherS.f k l c) r ∧ r ≤ c ∧ (0 ≤ r → (l.length ≤ 1048576 ∧ ∀ y ∈ l, sm86 y)) := by
  simp only [maxLen] at hl
  unfold laws_szMatcherS.f
  rw [w64 (x := c - (l.length : Int)) (by omega) (by omega)]
  by_cases hn : c - (l.length : Int) < 0
  · exact ⟨-1, ev_pos hn (ev_now _), by omega, fun h => absurd h (by decide)⟩
  · have key := up_ind l.length (fun i => ∀ c : Int, 0 ≤ c → c ≤ 1048576 → ∃ r, Ev (fun k => laws_szMatcherS.l0 k l c (i : Int)) r ∧ r ≤ c ∧ (0 ≤ r → ∀ j (h : j < l.length), i ≤ j → sm86 l[j])) ?d ?s 0 (by omega) (c - (l.length : Int)) (by omega) (by omega)
    case d => exact fun c h0 h1 => ⟨c, ev_step (fun _ => laws_szMatcherS.l0.eq_2 ..) (ev_neg (by omega) (ev_now _)), Int.le_refl _, fun _ j h hj => by omega⟩
    case s =>
      intro i h ih c h0 h1
      obtain ⟨r1, e1, hr1, hs1⟩ := szMatcher l[i] c h0 h1 (hw _ (List.getElem_mem h))
      by_cases hr : r1 < 0
      · refine ⟨-1, ev_step (fun _ => laws_szMatcherS.l0.eq_2 ..) ?_, by omega, fun h => absurd h (by decide)⟩
        repeat (first | (with_reducible refine ev_pos (by first | omega | rfl | decide) ?_) | (with_reducible refine ev_neg (by first | omega | decide) ?_))
        rw [(show rd_T86 l (i : Int) = l[i] from getD_lt h)]
        exact ev_bind e1 (ev_pos hr (ev_now _))
      · obtain ⟨r, e, hrc, hs⟩ := ih (r1) (by omega) (by omega)
        refine ⟨r, ev_step (fun _ => laws_szMatcherS.l0.eq_2 ..) ?_, by omega, fun h2 j hj hij => ?_⟩
        · repeat (first | (with_reducible refine ev_pos (by first | omega | rfl | decide) ?_) | (with_reducible refine ev_neg (by first | omega | decide) ?_))
          rw [(show rd_T86 l (i : Int) = l[i] from getD_lt h)]
          refine ev_bind e1 (ev_neg hr ?_)
          rw [w64n h (by omega)]
          exact e
        · by_cases ej : j = i
          · subst ej
            exact hs1 (by omega)
          · exact hs h2 j hj (by omega)
    obtain ⟨r, e, hrc, hs⟩ := key
    refine ⟨r, ev_neg hn e, by omega, fun h => ⟨by omega, fun y hy => ?_⟩⟩
    obtain ⟨j, hj, rfl⟩ := List.getElem_of_mem hy
    exact hs h j hj (by omega)

end Go.Proofs.Ytnnlgbpfdnaalaa.U
namespace Go.Proofs.Ytnnlgbpfdnaalaa.U
open Go.RowKit Go.Proofs.Ytnnlgbpfdnaalaa.Pr Go.Proofs.YtnnlgbpfdnaalaaW.PrintWords Go.Proofs.YtnnlgbpfdnaalaaW.PrintLast Go.Proofs.YtnnlgbpfdnaalaaW.PrintMore
set_option linter.unusedVariables false
set_option linter.unusedSimpArgs false
/-- A string's bytes. -/
abbrev Y (s : ByteArray) : List UInt8 := s.data.toList
theorem Y_eq {s : ByteArray} : s.toList = Y s := ByteArray.toList_eq s
theorem Y_len (s : ByteArray) : (Y s).length = s.size := Array.length_toList
theorem Y_inj {s t : ByteArray} (h : Y s = Y t) : s = t := by
  cases s
  cases t
  congr
  exact Array.toList_inj.1 h
theorem bt_at {s : ByteArray} {i : Nat} (h : i < s.size) : bt s (i : Int) = (((Y s)[i]'(by rw [Y_len]; exact h)).toNat : Int) := by
  unfold bt
  rw [dif_pos (show ((i : Int)).toNat < s.size from by omega)]
  rfl
theorem Y_drop {s : ByteArray} {i : Nat} (h : i < s.size) : (Y s).drop i = (Y s)[i]'(by rw [Y_len]; exact h) :: (Y s).drop (i + 1) := List.drop_eq_getElem_cons _
theorem Y_drop_end (s : ByteArray) : (Y s).drop s.size = [] := by rw [← Y_len, List.drop_length]
def digC (c : UInt8) : Bool := decide (48 ≤ (c.toNat : Int)) && decide ((c.toNat : Int) ≤ 57)
def letC (c : UInt8) : Bool := decide (97 ≤ (c.toNat : Int)) && decide ((c.toNat : Int) ≤ 122) || decide (65 ≤ (c.toNat : Int)) && decide ((c.toNat : Int) ≤ 90)
def wordC (c : UInt8) : Bool := letC c || digC c || decide ((c.toNat : Int) = 95)
def prC (c : UInt8) : Bool := decide (32 ≤ (c.toNat : Int)) && decide ((c.toNat : Int) ≤ 126)
/-- A name: at most 40 letters, digits and _, no digit first. -/
def nameL (l : List UInt8) : Bool := decide (1 ≤ l.length) && decide (l.length ≤ 40) && !(l.head?.any digC) && l.all wordC
def prL (n : Nat) (l : List UInt8) : Bool := decide (l.length ≤ n) && l.all prC
def valL (l : List UInt8) : Bool := decide (1 ≤ l.length) && prL 100 l
/-- How two rows of bytes stand to each other. -/
def cmpL : List UInt8 → List UInt8 → Int
  | [], [] => 0
  | [], _ :: _ => -1
  | _ :: _, [] => 1
  | a :: l, b :: m => if (a.toNat : Int) = (b.toNat : Int) then cmpL l m else if (a.toNat : Int) < (b.toNat : Int) then -1 else 1

end Go.Proofs.Ytnnlgbpfdnaalaa.U
namespace Go.Proofs.Ytnnlgbpfdnaalaa.U
open Go.RowKit Go.Proofs.Ytnnlgbpfdnaalaa.Pr Go.Proofs.YtnnlgbpfdnaalaaW.PrintWords Go.Proofs.YtnnlgbpfdnaalaaW.PrintLast Go.Proofs.YtnnlgbpfdnaalaaW.PrintMore
set_option linter.unusedVariables false
set_option linter.unusedSimpArgs false
theorem printed_spec (s : ByteArray) (hs : s.size ≤ 9223372036854775807) : Ev (fun k => spec_l2Printed.f k s) ((Y s).all prC) := by
  refine up_ind s.size (fun i => Ev (fun k => spec_l2Printed.l0 k s (i : Int)) (((Y s).drop i).all prC)) ?_ ?_ 0 (by omega)
  · rw [Y_drop_end]
    exact ev_step (fun _ => spec_l2Printed.l0.eq_2 ..) (ev_neg (by omega) (ev_now _))
  · intro i h ih
    refine ev_step (fun _ => spec_l2Printed.l0.eq_2 ..) (ev_pos (by omega) (ev_pos (by omega) ?_))
    rw [bt_at h, Y_drop h, List.all_cons, w64n h hs]
    unfold prC
    refine ev_ite (fun h1 => ?_) (fun h1 => ev_ite (fun h2 => ?_) (fun h2 => ?_))
    · rw [decide_eq_false (by omega)]
      exact ev_now _
    · rw [decide_eq_false (show ¬ _ ≤ (126 : Int) from by omega), Bool.and_false, Bool.false_and]
      exact ev_now _
    · rw [decide_eq_true (by omega), decide_eq_true (by omega)]
      exact ih
theorem printed_impl (s : ByteArray) (hs : s.size ≤ 9223372036854775807) (n : Nat) : Ev (fun k => impl_printed.f k s (n : Int)) (prL n (Y s)) := by
  unfold impl_printed.f prL
  rw [Y_len]
  refine ev_ite (fun h => ?_) (fun h => ?_)
  · rw [decide_eq_false (by omega)]
    exact ev_now _
  · rw [decide_eq_true (by omega), Bool.true_and]
    refine up_ind s.size (fun i => Ev (fun k => impl_printed.l0 k s (s.size : Int) (i : Int)) (((Y s).drop i).all prC)) ?_ ?_ 0 (by omega)
    · rw [Y_drop_end]
      exact ev_step (fun _ => impl_printed.l0.eq_2 ..) (ev_neg (by omega) (ev_now _))
    · intro i h ih
      refine ev_step (fun _ => impl_printed.l0.eq_2 ..) (ev_pos (by omega) (ev_pos (by omega) (ev_pos (by omega) ?_)))
      rw [bt_at h, Y_drop h, List.all_cons, w64n h hs]
      unfold prC
      refine ev_ite (fun h1 => ?_) (fun h1 => ev_ite (fun h2 => ?_) (fun h2 => ?_))
      · rw [decide_eq_false (by omega)]
        exact ev_now _
      · rw [decide_eq_false (show ¬ _ ≤ (126 : Int) from by omega), Bool.and_false, Bool.false_and]
        exact ev_now _
      · rw [decide_eq_true (by omega), decide_eq_true (by omega)]
        exact ih

end Go.Proofs.Ytnnlgbpfdnaalaa.U
namespace Go.Proofs.Ytnnlgbpfdnaalaa.U
open Go.RowKit Go.Proofs.Ytnnlgbpfdnaalaa.Pr Go.Proofs.YtnnlgbpfdnaalaaW.PrintWords Go.Proofs.YtnnlgbpfdnaalaaW.PrintLast Go.Proofs.YtnnlgbpfdnaalaaW.PrintMore
set_option linter.unusedVariables false
set_option linter.unusedSimpArgs false
theorem digit_impl (c : UInt8) : impl_digitByte.f (c.toNat : Int) = some (digC c) := by
  unfold impl_digitByte.f digC
  by_cases h : (c.toNat : Int) ≥ 48
  · rw [if_pos h, decide_eq_true (show 48 ≤ (c.toNat : Int) from h), Bool.true_and]
  · rw [if_neg h, decide_eq_false (show ¬ 48 ≤ (c.toNat : Int) from h), Bool.false_and]
theorem digit_spec (c : UInt8) : spec_l2Digit.f (c.toNat : Int) = some (digC c) := by
  unfold spec_l2Digit.f digC
  by_cases h : (c.toNat : Int) ≥ 48
  · rw [if_pos h, decide_eq_true (show 48 ≤ (c.toNat : Int) from h), Bool.true_and]
  · rw [if_neg h, decide_eq_false (show ¬ 48 ≤ (c.toNat : Int) from h), Bool.false_and]
theorem letter_impl (c : UInt8) : impl_letterByte.f (c.toNat : Int) = some (letC c) := by
  unfold impl_letterByte.f letC
  by_cases h : (c.toNat : Int) ≥ 97 <;> by_cases h1 : (c.toNat : Int) ≤ 122 <;> by_cases h2 : (c.toNat : Int) ≥ 65 <;> by_cases h3 : (c.toNat : Int) ≤ 90 <;> simp [h, h1, h2, h3] <;> omega
theorem letter_spec (c : UInt8) : spec_l2Letter.f (c.toNat : Int) = some (letC c) := by
  unfold spec_l2Letter.f letC
  by_cases h : (c.toNat : Int) ≥ 97 <;> by_cases h1 : (c.toNat : Int) ≤ 122 <;> by_cases h2 : (c.toNat : Int) ≥ 65 <;> by_cases h3 : (c.toNat : Int) ≤ 90 <;> simp [h, h1, h2, h3] <;> omega
theorem word_impl (c : UInt8) : impl_wordByte.f (c.toNat : Int) = some (wordC c) := by
  unfold impl_wordByte.f wordC
  rw [letter_impl, digit_impl]
  cases letC c <;> cases digC c <;> simp <;> rfl
theorem name_loop_impl (s : ByteArray) (hs : s.size ≤ 9223372036854775807) : Ev (fun k => impl_isName.l0 k s (s.size : Int) 0) ((Y s).all wordC) := by
  refine up_ind s.size (fun i => Ev (fun k => impl_isName.l0 k s (s.size : Int) (i : Int)) (((Y s).drop i).all wordC)) ?_ ?_ 0 (by omega)
  · rw [Y_drop_end]
    exact ev_step (fun _ => impl_isName.l0.eq_2 ..) (ev_neg (by omega) (ev_now _))
  · intro i h ih
    refine ev_step (fun _ => impl_isName.l0.eq_2 ..) (ev_pos (by omega) (ev_pos (by omega) (ev_pos (by omega) ?_)))
    rw [bt_at h, Y_drop h, List.all_cons, w64n h hs]
    refine ev_bind (ev_eq (word_impl _)) (ev_ite (fun h1 => ?_) (fun h1 => ?_))
    · rw [h1]
      exact ih
    · rw [Bool.eq_false_iff.2 h1]
      exact ev_now _
theorem name_loop_spec (s : ByteArray) (hs : s.size ≤ 9223372036854775807) : Ev (fun k => spec_l2Name.l0 k s 0) ((Y s).all wordC) := by
  refine up_ind s.size (fun i => Ev (fun k => spec_l2Name.l0 k s (i : Int)) (((Y s).drop i).all wordC)) ?_ ?_ 0 (by omega)
  · rw [Y_drop_end]
    exact ev_step (fun _ => spec_l2Name.l0.eq_2 ..) (ev_neg (by omega) (ev_now _))
  · intro i h ih
    refine ev_step (fun _ => spec_l2Name.l0.eq_2 ..) (ev_pos (by omega) (ev_pos (by omega) ?_))
    rw [bt_at h, Y_drop h, List.all_cons, w64n h hs]
    unfold wordC
    refine ev_bind (ev_eq (letter_spec _)) (ev_ite (fun h1 => ?_) (fun h1 => ev_bind (ev_eq (digit_spec _)) (ev_ite (fun h2 => ?_) (fun h2 => ev_ite (fun h3 => ?_) (fun h3 => ?_)))))
    · rw [h1]
      exact ih
    · rw [h2, Bool.or_true]
      exact ih
    · rw [decide_eq_true h3, Bool.or_true]
      exact ih
    · rw [Bool.eq_false_iff.2 h1, Bool.eq_false_iff.2 h2, decide_eq_false h3]
      exact ev_now _
theorem name_impl (s : ByteArray) (hs : s.size ≤ 9223372036854775807) : Ev (fun k => impl_isName.f k s) (nameL (Y s)) := by
  unfold impl_isName.f nameL
  rw [Y_eq]
  refine ev_ite (fun h => ?_) (fun h => ?_)
  · rw [h]
    exact ev_step (fun _ => impl_isName.j0.eq_2 ..) (ev_pos rfl (ev_now _))
  · have hl : 1 ≤ (Y s).length := by
      cases e : Y s with
      | nil => exact absurd e h
      | cons a l => simp
    rw [decide_eq_true hl, Y_len, Bool.true_and]
    rw [Y_len] at hl
    refine ev_ite (fun h1 => ?_) (fun h1 => ev_pos (by omega) ?_)
    · rw [decide_eq_false (by omega)]
      exact ev_step (fun _ => impl_isName.j0.eq_2 ..) (ev_pos rfl (ev_now _))
    · rw [decide_eq_true (by omega), Bool.true_and]
      have e0 := bt_at (s := s) (i := 0) (by omega)
      have eh : (Y s).head? = some ((Y s)[0]'(by rw [Y_len]; omega)) := by rw [List.head?_eq_getElem?, List.getElem?_eq_getElem]
      rw [show bt s 0 = bt s ((0 : Nat) : Int) from rfl, e0, eh]
      refine ev_bind (ev_eq (digit_impl _)) (ev_step (fun _ => impl_isName.j0.eq_2 ..) (ev_ite (fun h2 => ?_) (fun h2 => ?_)))
      · rw [Option.any_some, h2]
        exact ev_now _
      · rw [Option.any_some, Bool.eq_false_iff.2 h2]
        exact name_loop_impl s hs
theorem name_spec (s : ByteArray) (hs : s.size ≤ 9223372036854775807) : Ev (fun k => spec_l2Name.f k s) (nameL (Y s)) := by
  unfold spec_l2Name.f nameL
  rw [Y_len]
  refine ev_ite (fun h => ?_) (fun h => ?_)
  · rw [decide_eq_false (by omega)]
    exact ev_step (fun _ => spec_l2Name.j0.eq_2 ..) (ev_pos rfl (ev_now _))
  · rw [decide_eq_true (by omega), Bool.true_and]
    refine ev_ite (fun h1 => ?_) (fun h1 => ev_pos (by omega) ?_)
    · rw [decide_eq_false (by omega)]
      exact ev_step (fun _ => spec_l2Name.j0.eq_2 ..) (ev_pos rfl (ev_now _))
    · rw [decide_eq_true (by omega), Bool.true_and]
      have e0 := bt_at (s := s) (i := 0) (by omega)
      have eh : (Y s).head? = some ((Y s)[0]'(by rw [Y_len]; omega)) := by rw [List.head?_eq_getElem?, List.getElem?_eq_getElem]
      rw [show bt s 0 = bt s ((0 : Nat) : Int) from rfl, e0, eh]
      refine ev_bind (ev_eq (digit_spec _)) (ev_step (fun _ => spec_l2Name.j0.eq_2 ..) (ev_ite (fun h2 => ?_) (fun h2 => ?_)))
      · rw [Option.any_some, h2]
        exact ev_now _
      · rw [Option.any_some, Bool.eq_false_iff.2 h2]
        exact name_loop_spec s hs

end Go.Proofs.Ytnnlgbpfdnaalaa.U
namespace Go.Proofs.Ytnnlgbpfdnaalaa.U
open Go.RowKit Go.Proofs.Ytnnlgbpfdnaalaa.Pr Go.Proofs.YtnnlgbpfdnaalaaW.PrintWords Go.Proofs.YtnnlgbpfdnaalaaW.PrintLast Go.Proofs.YtnnlgbpfdnaalaaW.PrintMore
set_option linter.unusedVariables false
set_option linter.unusedSimpArgs false
/-- What both programs' GoodPattern answer. -/
def patB (s : ByteArray) : Bool := prL 100 (Y s) && (altA s 0 [] []).2
/-- A pattern's alternatives, as codes. -/
def patA (s : ByteArray) : List (List Int) := if prL 100 (Y s) = true then (altA s 0 [] []).1 else []
theorem prL_size {s : ByteArray} {n : Nat} (h : prL n (Y s) = true) : s.size ≤ n := by
  unfold prL at h
  rw [Y_len, Bool.and_eq_true, decide_eq_true_eq] at h
  exact h.1
theorem alt_spec (s : ByteArray) (hs : s.size ≤ 9223372036854775807) : Ev (fun k => spec_l2Alternatives.f k s) (patA s, patB s) := by
  unfold spec_l2Alternatives.f patB patA prL
  rw [Y_len]
  refine ev_ite (fun h => ?_) (fun h => ?_)
  · rw [decide_eq_false (by omega), Bool.false_and, Bool.false_and, if_neg (by decide)]
    exact ev_now _
  · rw [decide_eq_true (by omega), Bool.true_and]
    refine ev_bind (printed_spec s hs) (ev_ite (fun h1 => ?_) (fun h1 => ?_))
    · rw [h1, Bool.true_and, if_pos rfl]
      exact ev_now _
    · rw [Bool.eq_false_iff.2 h1, Bool.false_and, if_neg (by decide)]
      exact ev_now _
theorem alt_impl (s : ByteArray) (hs : s.size ≤ 9223372036854775807) : Ev (fun k => impl_alternatives.f k s) ((patA s).map (List.map altP), patB s) := by
  unfold impl_alternatives.f patB patA
  refine ev_bind (printed_impl s hs 100) (ev_ite (fun h1 => ?_) (fun h1 => ?_))
  · have h2 := prL_size h1
    rw [h1, Bool.true_and, if_pos rfl]
    exact ev_pos (by omega) (ev_now _)
  · rw [Bool.eq_false_iff.2 h1, Bool.false_and, if_neg (by decide)]
    exact ev_now _
theorem pat_spec (s : ByteArray) (hs : s.size ≤ 9223372036854775807) : Ev (fun k => spec_GoodPattern.f k s) (patB s) := by
  unfold spec_GoodPattern.f
  exact ev_bind (alt_spec s hs) (ev_now _)
theorem pat_impl (s : ByteArray) (hs : s.size ≤ 9223372036854775807) : Ev (fun k => impl_GoodPattern.f k s) (patB s) := by
  unfold impl_GoodPattern.f
  exact ev_bind (alt_impl s hs) (ev_now _)

end Go.Proofs.Ytnnlgbpfdnaalaa.U
namespace Go.Proofs.Ytnnlgbpfdnaalaa.U
open Go.RowKit Go.Proofs.Ytnnlgbpfdnaalaa.Pr Go.Proofs.YtnnlgbpfdnaalaaW.PrintWords Go.Proofs.YtnnlgbpfdnaalaaW.PrintLast Go.Proofs.YtnnlgbpfdnaalaaW.PrintMore
set_option linter.unusedVariables false
set_option linter.unusedSimpArgs false
theorem any_all_Matcher {α : Type} (P : Nat → α → Option Bool) (p : α → Bool) : ∀ l : List α, (∀ x ∈ l, Ev (fun k => P k x) (p x)) → ∃ K, ∀ k, K ≤ k → ∀ x ∈ l, P k x = some (p x) := by
  intro l
  induction l with
  | nil => intro _; exact ⟨0, fun _ _ _ h => by cases h⟩
  | cons y l ih =>
    intro h
    obtain ⟨K, h1⟩ := ih (fun x hx => h x (List.mem_cons_of_mem _ hx))
    obtain ⟨K', h2⟩ := h y (List.mem_cons_self ..)
    refine ⟨max K K', fun k hk x hx => ?_⟩
    rcases List.mem_cons.1 hx with rfl | hx
    · exact h2 k (by omega)
    · exact h1 k (by omega) x hx
theorem any_at_Matcher (P : S87 → Option Bool) (p : S87 → Bool) (l : List S87) (hl : l.length ≤ 9223372036854775807) (h : ∀ x ∈ l, P x = some (p x)) : ∀ (d k i : Nat), i + d = l.length → d < k → ∃ r, impl_Matcher_119.l0 P l k (i : Int) = some r ∧ decide (0 ≤ r) = (l.drop i).any p := by
  have hrd : ∀ (i : Nat) (h : i < l.length), rd_T87 l (i : Int) = l[i] := fun i h => getD_lt h
  intro d
  induction d with
  | zero =>
    intro k i h1 h2
    obtain ⟨k, rfl⟩ : ∃ m, k = m + 1 := ⟨k - 1, by omega⟩
    simp only [impl_Matcher_119.l0]
    rw [if_neg (by omega), List.drop_eq_nil_of_le (by omega), List.any_nil]
    exact ⟨-1, rfl, rfl⟩
  | succ d ih =>
    intro k i h1 h2
    obtain ⟨k, rfl⟩ : ∃ m, k = m + 1 := ⟨k - 1, by omega⟩
    have hi : i < l.length := by omega
    have hp : P (⟨l[i].f0, l[i].f1, l[i].f2⟩ : S87) = some (p l[i]) := h l[i] (List.getElem_mem hi)
    simp only [impl_Matcher_119.l0]
    rw [if_pos (by omega), if_pos (by omega), hrd i hi, hp, Option.bind_some, List.drop_eq_getElem_cons hi, List.any_cons, w64n hi (by omega)]
    by_cases hq : p l[i] = true
    · rw [if_pos hq, hq, Bool.true_or]
      exact ⟨i, rfl, decide_eq_true (by omega)⟩
    · rw [if_neg hq, Bool.eq_false_iff.2 hq, Bool.false_or]
      exact ih k (i + 1) (by omega) (by omega)
theorem any_Matcher (P : Nat → S87 → Option Bool) (p : S87 → Bool) (l : List S87) (hl : l.length ≤ 9223372036854775807) (h : ∀ x ∈ l, Ev (fun k => P k x) (p x)) : Ev (fun k => impl_Matcher_73.f k (P k) l) (l.any p) := by
  obtain ⟨K, hK⟩ := any_all_Matcher P p l h
  refine ⟨max K (l.length + 1), fun k hk => ?_⟩
  obtain ⟨r, h1, h2⟩ := any_at_Matcher (P k) p l hl (hK k (by omega)) l.length k 0 (by omega) (by omega)
  have h3 : impl_Matcher_119.f k (P k) l = some r := h1
  show ((impl_Matcher_119.f k (P k) l).bind fun j => some (decide (0 ≤ j))) = some (l.any p)
  rw [h3, Option.bind_some, h2]
  rfl

end Go.Proofs.Ytnnlgbpfdnaalaa.U
namespace Go.Proofs.Ytnnlgbpfdnaalaa.U
open Go.RowKit Go.Proofs.Ytnnlgbpfdnaalaa.Pr Go.Proofs.YtnnlgbpfdnaalaaW.PrintWords Go.Proofs.YtnnlgbpfdnaalaaW.PrintLast Go.Proofs.YtnnlgbpfdnaalaaW.PrintMore
set_option linter.unusedVariables false
set_option linter.unusedSimpArgs false
/-- What both programs' goodMatcher answer. -/
def matchB (x : S87) : Bool := nameL (Y x.f0) && (decide (1 ≤ x.f1) && (decide (x.f1 ≤ 4) && (prL 100 (Y x.f2) && (decide (x.f1 < 3) || patB x.f2))))
def fitM (l : List S87) : Prop := ∀ x ∈ l, x.f0.size ≤ 9223372036854775807 ∧ x.f2.size ≤ 9223372036854775807
def matchesB (l : List S87) : Bool := decide (l.length ≤ 10) && l.all matchB
theorem matcher_impl (x : S87) (h0 : x.f0.size ≤ 9223372036854775807) (h2 : x.f2.size ≤ 9223372036854775807) : Ev (fun k => impl_goodMatcher.f k x.f0 x.f1 x.f2) (matchB x) := by
  unfold impl_goodMatcher.f matchB
  refine ev_bind (name_impl _ h0) (ev_ite (fun h1 => ?_) (fun h1 => ?_))
  · rw [h1, Bool.true_and]
    refine ev_ite (fun h3 => ?_) (fun h3 => ev_ite (fun h4 => ?_) (fun h4 => ?_))
    · rw [decide_eq_false (show ¬ 1 ≤ x.f1 by omega), Bool.false_and]; exact ev_now _
    · rw [decide_eq_false (show ¬ x.f1 ≤ 4 by omega), Bool.false_and, Bool.and_false]; exact ev_now _
    · rw [decide_eq_true (show 1 ≤ x.f1 by omega), decide_eq_true (show x.f1 ≤ 4 by omega), Bool.true_and, Bool.true_and]
      refine ev_bind (printed_impl _ h2 100) (ev_ite (fun h5 => ?_) (fun h5 => ?_))
      · rw [h5, Bool.true_and]
        refine ev_ite (fun h6 => ?_) (fun h6 => ?_)
        · rw [decide_eq_true h6, Bool.true_or]; exact ev_now _
        · rw [decide_eq_false h6, Bool.false_or]; exact ev_bind (pat_impl _ h2) (ev_now _)
      · rw [Bool.eq_false_iff.2 h5, Bool.false_and]; exact ev_now _
  · rw [Bool.eq_false_iff.2 h1, Bool.false_and]; exact ev_now _
theorem goodMatchers_impl (l : List S87) (hl : l.length ≤ 9223372036854775807) (hf : fitM l) : Ev (fun k => impl_GoodMatchers.f k l) (matchesB l) := by
  unfold impl_GoodMatchers.f matchesB
  refine ev_ite (fun h => ?_) (fun h => ?_)
  · rw [decide_eq_true (show l.length ≤ 10 by omega), Bool.true_and]
    have h1 := any_Matcher (fun k x => (impl_goodMatcher.f k x.f0 x.f1 x.f2).bind fun b => some (!b)) (fun x => !(matchB x)) l hl (fun x hx => ev_bind (matcher_impl x (hf x hx).1 (hf x hx).2) (ev_now _))
    rw [show l.all matchB = !(l.any fun x => !(matchB x)) from by rw [List.not_any_eq_all_not]; simp]
    exact ev_bind h1 (ev_now _)
  · rw [decide_eq_false (show ¬ l.length ≤ 10 by omega), Bool.false_and]; exact ev_now _
theorem goodMatchers_spec (l : List S87) (hl : l.length ≤ 9223372036854775807) (hf : fitM l) : Ev (fun k => spec_GoodMatchers.f k l) (matchesB l) := by
  unfold spec_GoodMatchers.f matchesB
  have hrd : ∀ (i : Nat) (h : i < l.length), rd_T87 l (i : Int) = l[i] := fun i h => getD_lt h
  refine ev_ite (fun h => ?_) (fun h => ?_)
  · rw [decide_eq_false (show ¬ l.length ≤ 10 by omega), Bool.false_and]; exact ev_now _
  · rw [decide_eq_true (show l.length ≤ 10 by omega), Bool.true_and]
    refine up_ind l.length (fun i => Ev (fun k => spec_GoodMatchers.l0 k l (l.length : Int) (i : Int)) ((l.drop i).all matchB)) ?_ ?_ 0 (by omega)
    · rw [List.drop_length]
      exact ev_step (fun _ => spec_GoodMatchers.l0.eq_2 ..) (ev_neg (by omega) (ev_now _))
    · intro i h ih
      obtain ⟨h0, h2⟩ := hf l[i] (List.getElem_mem h)
      refine ev_step (fun _ => spec_GoodMatchers.l0.eq_2 ..) (ev_pos (by omega) (ev_pos (by omega) (ev_pos (by omega) ?_)))
      rw [hrd i h, List.drop_eq_getElem_cons h, List.all_cons, w64n h (by omega)]
      unfold matchB
      refine ev_bind (name_spec _ h0) (ev_ite (fun h1 => ?_) (fun h1 => ?_))
      · rw [h1, Bool.true_and]
        refine ev_ite (fun h3 => ?_) (fun h3 => ev_ite (fun h4 => ?_) (fun h4 => ev_ite (fun h5 => ?_) (fun h5 => ?_)))
        · rw [decide_eq_false (show ¬ 1 ≤ l[i].f1 by omega), Bool.false_and, Bool.false_and]; exact ev_now _
        · rw [decide_eq_false (show ¬ l[i].f1 ≤ 4 by omega), Bool.false_and, Bool.and_false, Bool.false_and]; exact ev_now _
        · unfold prL
          rw [Y_len, decide_eq_false (show ¬ l[i].f2.size ≤ 100 by omega), Bool.false_and, Bool.false_and, Bool.and_false, Bool.and_false, Bool.false_and]; exact ev_now _
        · rw [decide_eq_true (show 1 ≤ l[i].f1 by omega), decide_eq_true (show l[i].f1 ≤ 4 by omega), Bool.true_and, Bool.true_and]
          unfold prL
          rw [Y_len, decide_eq_true (show l[i].f2.size ≤ 100 by omega), Bool.true_and]
          refine ev_bind (printed_spec _ h2) (ev_ite (fun h6 => ?_) (fun h6 => ?_))
          · rw [h6, Bool.true_and]
            refine ev_ite (fun h7 => ?_) (fun h7 => ?_)
            · rw [decide_eq_false (show ¬ l[i].f1 < 3 by omega), Bool.false_or]
              refine ev_bind (pat_spec _ h2) (ev_ite (fun h8 => ?_) (fun h8 => ?_))
              · rw [h8, Bool.true_and]; exact ih
              · rw [Bool.eq_false_iff.2 h8, Bool.false_and]; exact ev_now _
            · rw [decide_eq_true (show l[i].f1 < 3 by omega), Bool.true_or, Bool.true_and]; exact ih
          · rw [Bool.eq_false_iff.2 h6, Bool.false_and, Bool.false_and]; exact ev_now _
      · rw [Bool.eq_false_iff.2 h1, Bool.false_and, Bool.false_and]; exact ev_now _
theorem fitM_cv (l : List S86) (h : l.length ≤ 1048576 ∧ ∀ x ∈ l, sm86 x) : fitM (l.map cv86) := by
  intro x hx
  obtain ⟨y, hy, rfl⟩ := List.mem_map.1 hx
  obtain ⟨h1, h2⟩ := h.2 y hy
  exact ⟨by show y.f0.size ≤ _; omega, by show y.f2.size ≤ _; omega⟩

end Go.Proofs.Ytnnlgbpfdnaalaa.U
