/- Plain lemmas over the printed functions, for the law FnExactSelectHead; each theorem states its own conditions. -/
import Derived.Test.YthkhflhmnjgbnaaGreatPrx0
import Derived.Test.YthkhflhmnjgbnaaGreatPrxgc64c7n1
import Derived.Test.YthkhflhmnjgbnaaGreatPrxgc64c7n2
import Derived.Test.YthkhflhmnjgbnaaGreatPrxgc64c7n3
import Derived.Test.YthkhflhmnjgbnaaGreatPrxgc64c7n4
import Derived.Test.YthkhflhmnjgbnaaGreatPrxgc64c7n5
import Derived.Test.YthkhflhmnjgbnaaGreatPrxgc64c7n6
import Derived.Test.YthkhflhmnjgbnaaGreatPrxgc64c7n7
import Derived.Test.YthkhflhmnjgbnaaGreatPrxgc64c7n8
namespace Go.Proofs.YthkhflhmnjgbnaaGreat.U
open Go.RowKit Go.Proofs.YthkhflhmnjgbnaaGreat.Pr Go.Proofs.YthkhflhmnjgbnaaGreatW.PrintWords Go.Proofs.YthkhflhmnjgbnaaGreatW.PrintLast Go.Proofs.YthkhflhmnjgbnaaGreatW.PrintMore
set_option linter.unusedVariables false
set_option linter.unusedSimpArgs false
/-! Words for plain proofs over the printed functions: from some number of rounds on; loops that go up; ranges. -/
theorem w64 {x : Int} (h0 : -9223372036854775808 ≤ x) (h1 : x ≤ 9223372036854775807) : wrap64 x = x := by unfold wrap64; omega
theorem w64n {i n : Nat} (h : i < n) (hn : n ≤ 9223372036854775807) : wrap64 ((i : Int) + 1) = ((i + 1 : Nat) : Int) := by unfold wrap64; omega
theorem ev_now {α : Type} (r : α) : Ev (fun _ => some r) r := Ev.now r
theorem ev_eq {α : Type} {g : Option α} {r : α} (h : g = some r) : Ev (fun _ => g) r := ⟨0, fun _ _ => h⟩
theorem ev_pos {α : Type} {c : Prop} [Decidable c] {a b : Nat → Option α} {r : α} (h : c) (e : Ev a r) : Ev (fun k => if c then a k else b k) r := by
 obtain ⟨K, e⟩ := e
 exact ⟨K, fun k hk => (if_pos h).trans (e k hk)⟩
theorem ev_neg {α : Type} {c : Prop} [Decidable c] {a b : Nat → Option α} {r : α} (h : ¬ c) (e : Ev b r) : Ev (fun k => if c then a k else b k) r := by
 obtain ⟨K, e⟩ := e
 exact ⟨K, fun k hk => (if_neg h).trans (e k hk)⟩
theorem ev_ite {α : Type} {c : Prop} [Decidable c] {a b : Nat → Option α} {r : α} (h : c → Ev a r) (h' : ¬ c → Ev b r) : Ev (fun k => if c then a k else b k) r := by
 by_cases hc : c
 ·exact ev_pos hc (h hc)
 ·exact ev_neg hc (h' hc)
theorem ev_bind {α β : Type} {g : Nat → Option α} {f : Nat → α → Option β} {a : α} {r : β} (h : Ev g a) (k : Ev (fun n => f n a) r) : Ev (fun n => (g n).bind (f n)) r := Ev.bind h k
theorem ev_some {α β : Type} {f : Nat → α → Option β} {a : α} {r : β} (k : Ev (fun n => f n a) r) : Ev (fun n => (some a).bind (f n)) r := Ev.bind (Ev.now a) k
theorem ev_step {α : Type} {g f : Nat → Option α} {r : α} (h : ∀ k, g (k + 1) = f k) (k : Ev f r) : Ev g r := Ev.step h k
theorem ev_one {α : Type} {g : Nat → Option α} {r q : α} (h : Ev g r) (h' : Ev g q) : r = q := by
 obtain ⟨K, h⟩ := h
 obtain ⟨K', h'⟩ := h'
 exact Option.some.inj ((h (max K K') (Nat.le_max_left _ _)).symm.trans (h' _ (Nat.le_max_right _ _)))
/-- What holds at the end and goes down a round, holds at each round. -/
theorem up_ind (n : Nat) (Q : Nat → Prop) (done : Q n) (step : ∀ i, i < n → Q (i + 1) → Q i) : ∀ i, i ≤ n → Q i := by
 have key : ∀ d i, i + d = n → Q i := by
  intro d
  induction d with
  | zero =>
   intro i h
   have e : i = n := by omega
   rw [e]
   exact done
  | succ d ih => intro i h; exact step i (by omega) (ih (i + 1) (by omega))
 exact fun i h => key (n - i) i (by omega)
theorem getD_lt {α : Type} {l : List α} {d : α} {i : Nat} (h : i < l.length) : l.getD ((i : Int).toNat) d = l[i] := by
 rw [Int.toNat_natCast, List.getD_eq_getElem?_getD, List.getElem?_eq_getElem h]
 rfl
theorem rd_at {l : List Int} {i : Nat} (h : i < l.length) : rd l (i : Int) = l[i] := getD_lt h
/-- A loop that writes a row anew, element by element. -/
theorem ev_copy {α β : Type} (F : Nat → List β → Int → Option (List β)) (cv : α → β) (l : List α) (x : List β) (hx : x.length = l.length)
  (step : ∀ (i : Nat) (h : i < l.length) (y r : List β), y.length = l.length → Ev (fun k => F k (y.set i (cv l[i])) ((i + 1 : Nat) : Int)) r → Ev (fun k => F k y (i : Int)) r)
  (done : ∀ y : List β, y.length = l.length → Ev (fun k => F k y (l.length : Int)) y) : Ev (fun k => F k x 0) (l.map cv) := by
 refine up_ind l.length (fun i => ∀ y : List β, y.length = l.length → (∀ j, j < i → y[j]? = (l.map cv)[j]?) → Ev (fun k => F k y (i : Int)) (l.map cv)) ?_ ?_ 0 (by omega) x hx (fun j hj => by omega)
 ·intro y hy h
  have e : y = l.map cv := by
   apply List.ext_getElem?
   intro j
   by_cases hj : j < l.length
   ·exact h j hj
   ·rw [List.getElem?_eq_none (by omega), List.getElem?_eq_none (by simp; omega)]
  have d := done y hy
  rw [e] at d ⊢
  exact d
 ·intro i hi ih y hy h
  refine step i hi y _ hy (ih _ (by simp [hy]) (fun j hj => ?_))
  by_cases e : j = i
  ·subst e
   rw [List.getElem?_set_self (by omega), List.getElem?_map, List.getElem?_eq_getElem hi]
   rfl
  ·rw [List.getElem?_set_ne (Ne.symm e)]
   exact h j (by omega)
end Go.Proofs.YthkhflhmnjgbnaaGreat.U
namespace Go.Proofs.YthkhflhmnjgbnaaGreat.U
open Go.RowKit Go.Proofs.YthkhflhmnjgbnaaGreat.Pr Go.Proofs.YthkhflhmnjgbnaaGreatW.PrintWords Go.Proofs.YthkhflhmnjgbnaaGreatW.PrintLast Go.Proofs.YthkhflhmnjgbnaaGreatW.PrintMore
set_option linter.unusedVariables false
set_option linter.unusedSimpArgs false
/-- Times that rise, from lo on, each one in its range. -/
def incS (lo : Int) : List S69 → Bool
 | [] => true
 | x :: xs => decide (0 ≤ x.f0) && decide (x.f0 ≤ 1000000000000) && decide (lo < x.f0) && incS x.f0 xs
def goodS (l : List S69) : Bool := decide (l.length ≤ 2000) && incS (-1) l
def ptS (l : List S69) (i : Nat) : Int := if i = 0 then -1 else (rd_T69 l ((i - 1 : Nat) : Int)).f0
theorem isTime_yes {x : Int} (h : 0 ≤ x ∧ x ≤ 1000000000000) : impl_isTime.f x = some true ∧ spec_l3Time.f x = some true := by
 unfold impl_isTime.f spec_l3Time.f
 rw [if_pos h.1, decide_eq_true h.2]
 exact ⟨rfl, rfl⟩
theorem isTime_no {x : Int} (h : ¬ (0 ≤ x ∧ x ≤ 1000000000000)) : impl_isTime.f x = some false ∧ spec_l3Time.f x = some false := by
 unfold impl_isTime.f spec_l3Time.f
 by_cases h0 : x ≥ 0
 ·rw [if_pos h0, decide_eq_false (by omega)]
  exact ⟨rfl, rfl⟩
 ·rw [if_neg h0]
  exact ⟨rfl, rfl⟩
theorem gs_impl (l : List S69) (hl : l.length ≤ 9223372036854775807) : ∀ i, i ≤ l.length → Ev (fun k => impl_GoodSamples.l0 k l l (l.length : Int) (i : Int)) ((incS (ptS l i) (l.drop i))) := by
 have hrd : ∀ (i : Nat) (h : i < l.length), rd_T69 l (i : Int) = l[i] := fun i h => getD_lt h
 refine up_ind l.length (fun i => Ev (fun k => impl_GoodSamples.l0 k l l (l.length : Int) (i : Int)) ((incS (ptS l i) (l.drop i)))) ?_ ?_
 ·rw [List.drop_length]
  refine ev_step (fun _ => impl_GoodSamples.l0.eq_2 ..) (ev_neg (by omega) ?_)
  exact ev_now _
 ·intro i h ih
  have hp : ptS l (i + 1) = l[i].f0 := by unfold ptS; rw [if_neg (by omega), Nat.add_sub_cancel, hrd i h]
  rw [hp] at ih
  have wi : wrap64 ((i : Int) + 1) = ((i + 1 : Nat) : Int) := w64n h hl
  refine ev_step (fun _ => impl_GoodSamples.l0.eq_2 ..) (ev_pos (by omega) (ev_pos (by omega) (ev_pos (by omega) ?_)))
  rw [hrd i h, List.drop_eq_getElem_cons h]
  by_cases ht : 0 ≤ l[i].f0 ∧ l[i].f0 ≤ 1000000000000
  ·refine ev_bind (ev_eq (isTime_yes ht).1) (ev_pos rfl ?_)
   by_cases hi : i = 0
   ·subst hi
    have e : incS (ptS l 0) (l[0] :: l.drop (0 + 1)) = incS l[0].f0 (l.drop (0 + 1)) := by simp [incS, ptS, ht]; omega
    rw [e, wi]
    exact ev_neg (by omega) ih
   ·have wm : wrap64 ((i : Int) - 1) = ((i - 1 : Nat) : Int) := by rw [w64 (by omega) (by omega)]; omega
    rw [wm, hrd (i - 1) (by omega)]
    refine ev_pos (by omega) (ev_pos (by omega) (ev_pos (by omega) ?_))
    have hq : ptS l i = l[i - 1].f0 := by unfold ptS; rw [if_neg hi, hrd (i - 1) (by omega)]
    rw [hq]
    by_cases hc : l[i - 1].f0 ≥ l[i].f0
    ·have e : incS l[i - 1].f0 (l[i] :: l.drop (i + 1)) = false := by simp [incS]; omega
     rw [e]
     refine ev_pos hc ?_
     exact ev_now _
    ·have e : incS l[i - 1].f0 (l[i] :: l.drop (i + 1)) = incS l[i].f0 (l.drop (i + 1)) := by simp [incS, ht]; omega
     rw [e, wi]
     exact ev_neg hc ih
  ·have e : incS (ptS l i) (l[i] :: l.drop (i + 1)) = false := by simp [incS]; omega
   rw [e]
   refine ev_bind (ev_eq (isTime_no ht).1) (ev_neg (by decide) ?_)
   exact ev_now _
theorem gs_spec (l : List S69) (hl : l.length ≤ 9223372036854775807) : ∀ i, i ≤ l.length → Ev (fun k => spec_GoodSamples.l0 k l l (l.length : Int) (i : Int)) (decide (l.length ≤ 2000) && (incS (ptS l i) (l.drop i))) := by
 have hrd : ∀ (i : Nat) (h : i < l.length), rd_T69 l (i : Int) = l[i] := fun i h => getD_lt h
 refine up_ind l.length (fun i => Ev (fun k => spec_GoodSamples.l0 k l l (l.length : Int) (i : Int)) (decide (l.length ≤ 2000) && (incS (ptS l i) (l.drop i)))) ?_ ?_
 ·rw [List.drop_length]
  refine ev_step (fun _ => spec_GoodSamples.l0.eq_2 ..) (ev_neg (by omega) ?_)
  rw [show decide ((l.length : Int) ≤ 2000) = (decide (l.length ≤ 2000) && incS (ptS l l.length) []) from by simp [incS]; omega]
  exact ev_now _
 ·intro i h ih
  have hp : ptS l (i + 1) = l[i].f0 := by unfold ptS; rw [if_neg (by omega), Nat.add_sub_cancel, hrd i h]
  rw [hp] at ih
  have wi : wrap64 ((i : Int) + 1) = ((i + 1 : Nat) : Int) := w64n h hl
  refine ev_step (fun _ => spec_GoodSamples.l0.eq_2 ..) (ev_pos (by omega) (ev_pos (by omega) (ev_pos (by omega) ?_)))
  rw [hrd i h, List.drop_eq_getElem_cons h]
  by_cases ht : 0 ≤ l[i].f0 ∧ l[i].f0 ≤ 1000000000000
  ·refine ev_bind (ev_eq (isTime_yes ht).2) (ev_pos rfl ?_)
   by_cases hi : i = 0
   ·subst hi
    have e : incS (ptS l 0) (l[0] :: l.drop (0 + 1)) = incS l[0].f0 (l.drop (0 + 1)) := by simp [incS, ptS, ht]; omega
    rw [e, wi]
    exact ev_neg (by omega) ih
   ·have wm : wrap64 ((i : Int) - 1) = ((i - 1 : Nat) : Int) := by rw [w64 (by omega) (by omega)]; omega
    rw [wm, hrd (i - 1) (by omega)]
    refine ev_pos (by omega) (ev_pos (by omega) (ev_pos (by omega) ?_))
    have hq : ptS l i = l[i - 1].f0 := by unfold ptS; rw [if_neg hi, hrd (i - 1) (by omega)]
    rw [hq]
    by_cases hc : l[i - 1].f0 ≥ l[i].f0
    ·have e : incS l[i - 1].f0 (l[i] :: l.drop (i + 1)) = false := by simp [incS]; omega
     rw [e]
     refine ev_pos hc ?_
     rw [Bool.and_false]
     exact ev_now _
    ·have e : incS l[i - 1].f0 (l[i] :: l.drop (i + 1)) = incS l[i].f0 (l.drop (i + 1)) := by simp [incS, ht]; omega
     rw [e, wi]
     exact ev_neg hc ih
  ·have e : incS (ptS l i) (l[i] :: l.drop (i + 1)) = false := by simp [incS]; omega
   rw [e]
   refine ev_bind (ev_eq (isTime_no ht).2) (ev_neg (by decide) ?_)
   rw [Bool.and_false]
   exact ev_now _
theorem goodSamples_impl (l : List S69) (hl : l.length ≤ 9223372036854775807) : Ev (fun k => impl_GoodSamples.f k l) (goodS l) := by
 unfold impl_GoodSamples.f goodS
 by_cases h : l.length ≤ 2000
 ·rw [decide_eq_true h, Bool.true_and]
  exact ev_neg (by omega) (gs_impl l hl 0 (by omega))
 ·rw [decide_eq_false h, Bool.false_and]
  exact ev_pos (by omega) (ev_now _)
theorem goodSamples_spec (l : List S69) (hl : l.length ≤ 9223372036854775807) : Ev (fun k => spec_GoodSamples.f k l) (goodS l) := by
 unfold spec_GoodSamples.f
 exact gs_spec l hl 0 (by omega)
end Go.Proofs.YthkhflhmnjgbnaaGreat.U
namespace Go.Proofs.YthkhflhmnjgbnaaGreat.U
open Go.RowKit Go.Proofs.YthkhflhmnjgbnaaGreat.Pr Go.Proofs.YthkhflhmnjgbnaaGreatW.PrintWords Go.Proofs.YthkhflhmnjgbnaaGreatW.PrintLast Go.Proofs.YthkhflhmnjgbnaaGreatW.PrintMore
set_option linter.unusedVariables false
set_option linter.unusedSimpArgs false
/-- A string's bytes. -/
abbrev Y (s : ByteArray) : List UInt8 := s.data.toList
theorem Y_eq {s : ByteArray} : s.toList = Y s := ByteArray.toList_eq s
theorem Y_len (s : ByteArray) : (Y s).length = s.size := Array.length_toList
theorem bt_at {s : ByteArray} {i : Nat} (h : i < s.size) : bt s (i : Int) = (((Y s)[i]'(by rw [Y_len]; exact h)).toNat : Int) := by
 unfold bt
 rw [dif_pos (show ((i : Int)).toNat < s.size from by omega)]
 rfl
theorem Y_drop {s : ByteArray} {i : Nat} (h : i < s.size) : (Y s).drop i = (Y s)[i]'(by rw [Y_len]; exact h) :: (Y s).drop (i + 1) := List.drop_eq_getElem_cons _
theorem Y_drop_end (s : ByteArray) : (Y s).drop s.size = [] := by rw [← Y_len, List.drop_length]
def digC (c : UInt8) : Bool := decide (48 ≤ (c.toNat : Int)) && decide ((c.toNat : Int) ≤ 57)
def letC (c : UInt8) : Bool := decide (97 ≤ (c.toNat : Int)) && decide ((c.toNat : Int) ≤ 122) || decide (65 ≤ (c.toNat : Int)) && decide ((c.toNat : Int) ≤ 90)
def wordC (c : UInt8) : Bool := letC c || digC c || decide ((c.toNat : Int) = 95)
def prC (c : UInt8) : Bool := decide (32 ≤ (c.toNat : Int)) && decide ((c.toNat : Int) ≤ 126)
/-- A name: at most 40 letters, digits and _, no digit first. -/
def nameL (l : List UInt8) : Bool := decide (1 ≤ l.length) && decide (l.length ≤ 40) && !(l.head?.any digC) && l.all wordC
def prL (n : Nat) (l : List UInt8) : Bool := decide (l.length ≤ n) && l.all prC
def valL (l : List UInt8) : Bool := decide (1 ≤ l.length) && prL 100 l
/-- How two rows of bytes stand to each other. -/
def cmpL : List UInt8 → List UInt8 → Int
 | [], [] => 0
 | [], _ :: _ => -1
 | _ :: _, [] => 1
 | a :: l, b :: m => if (a.toNat : Int) = (b.toNat : Int) then cmpL l m else if (a.toNat : Int) < (b.toNat : Int) then -1 else 1
end Go.Proofs.YthkhflhmnjgbnaaGreat.U
namespace Go.Proofs.YthkhflhmnjgbnaaGreat.U
open Go.RowKit Go.Proofs.YthkhflhmnjgbnaaGreat.Pr Go.Proofs.YthkhflhmnjgbnaaGreatW.PrintWords Go.Proofs.YthkhflhmnjgbnaaGreatW.PrintLast Go.Proofs.YthkhflhmnjgbnaaGreatW.PrintMore
set_option linter.unusedVariables false
set_option linter.unusedSimpArgs false
def cn (a b : Int) : Int := if a < b then -1 else if a > b then 1 else 0
theorem cmpNum_spec (a b : Int) : spec_l2CmpNum.f a b = some (cn a b) := by
 unfold spec_l2CmpNum.f cn
 by_cases h : a < b
 ·rw [if_pos h, if_pos h]
 ·rw [if_neg h, if_neg h]
  by_cases h' : a > b
  ·rw [if_pos h', if_pos h']
  ·rw [if_neg h', if_neg h']
theorem less_cmp : ∀ a b : List UInt8, Op.bytesLess a b = decide (cmpL a b < 0)
 | [], [] => rfl
 | [], _ :: _ => rfl
 | _ :: _, [] => rfl
 | a :: l, b :: m => by
  unfold Op.bytesLess cmpL
  rw [less_cmp l m]
  by_cases e : (a.toNat : Int) = (b.toNat : Int)
  ·have : a = b := UInt8.toNat_inj.1 (by omega)
   subst this
   simp
  ·have hne : (a == b) = false := by
    rw [beq_eq_false_iff_ne]
    rintro rfl
    exact e rfl
   rw [if_neg e, hne, Bool.false_and, Bool.or_false]
   by_cases h : (a.toNat : Int) < (b.toNat : Int)
   ·rw [if_pos h]
    have : a < b := UInt8.lt_iff_toNat_lt.2 (by omega)
    simp [this]
   ·rw [if_neg h]
    have : ¬ a < b := fun h' => h (by have := UInt8.lt_iff_toNat_lt.1 h'; omega)
    simp [this]
theorem cmp_spec (s t : ByteArray) (hs : s.size ≤ 9223372036854775807) (ht : t.size ≤ 9223372036854775807) : Ev (fun k => spec_l2CmpText.f k s t) (cmpL (Y s) (Y t)) := by
 refine up_ind (min s.size t.size) (fun i => Ev (fun k => spec_l2CmpText.l0 k s t (i : Int)) (cmpL ((Y s).drop i) ((Y t).drop i))) ?_ ?_ 0 (by omega)
 ·generalize hm : min s.size t.size = m
  rcases Nat.lt_or_ge m s.size with h | h
  ·have e : m = t.size := by omega
   refine ev_step (fun _ => spec_l2CmpText.l0.eq_2 ..) (ev_pos (by omega) ?_)
   rw [decide_eq_false (by omega)]
   refine ev_step (fun _ => spec_l2CmpText.j1.eq_2 ..) (ev_neg (by decide) (ev_bind (ev_eq (cmpNum_spec _ _)) ?_))
   rw [Y_drop h, show List.drop m (Y t) = [] from by rw [e, Y_drop_end]]
   unfold cn cmpL
   rw [if_neg (by omega), if_pos (by omega)]
   exact ev_now _
  ·have e : m = s.size := by omega
   refine ev_step (fun _ => spec_l2CmpText.l0.eq_2 ..) (ev_neg (by omega) ?_)
   refine ev_step (fun _ => spec_l2CmpText.j1.eq_2 ..) (ev_neg (by decide) (ev_bind (ev_eq (cmpNum_spec _ _)) ?_))
   rw [e, Y_drop_end]
   by_cases h2 : s.size < t.size
   ·rw [Y_drop h2]
    unfold cn cmpL
    rw [if_pos (by omega)]
    exact ev_now _
   ·have e2 : s.size = t.size := by omega
    rw [e2, Y_drop_end]
    unfold cn cmpL
    rw [if_neg (by omega), if_neg (by omega)]
    exact ev_now _
 ·intro i h ih
  have h1 : i < s.size := by omega
  have h2 : i < t.size := by omega
  refine ev_step (fun _ => spec_l2CmpText.l0.eq_2 ..) (ev_pos (by omega) ?_)
  rw [decide_eq_true (by omega)]
  refine ev_step (fun _ => spec_l2CmpText.j1.eq_2 ..) (ev_pos rfl (ev_pos (by omega) (ev_pos (by omega) (ev_pos (by omega) ?_))))
  rw [bt_at h1, bt_at h2, Y_drop h1, Y_drop h2, w64n h1 hs]
  have a1 := ((Y s)[i]'(by rw [Y_len]; exact h1)).toNat_lt
  have a2 := ((Y t)[i]'(by rw [Y_len]; exact h2)).toNat_lt
  rw [w64 (x := (((Y s)[i]'(by rw [Y_len]; exact h1)).toNat : Int)) (by omega) (by omega), w64 (x := (((Y t)[i]'(by rw [Y_len]; exact h2)).toNat : Int)) (by omega) (by omega)]
  unfold cmpL
  refine ev_ite (fun h3 => ?_) (fun h3 => ?_)
  ·rw [if_pos h3]
   exact ih
  ·rw [if_neg h3]
   refine ev_bind (ev_eq (cmpNum_spec _ _)) ?_
   unfold cn
   by_cases h4 : (((Y s)[i]'(by rw [Y_len]; exact h1)).toNat : Int) < (((Y t)[i]'(by rw [Y_len]; exact h2)).toNat : Int)
   ·rw [if_pos h4, if_pos h4]
    exact ev_now _
   ·rw [if_neg h4, if_neg h4, if_pos (by omega)]
    exact ev_now _
end Go.Proofs.YthkhflhmnjgbnaaGreat.U
namespace Go.Proofs.YthkhflhmnjgbnaaGreat.U
open Go.RowKit Go.Proofs.YthkhflhmnjgbnaaGreat.Pr Go.Proofs.YthkhflhmnjgbnaaGreatW.PrintWords Go.Proofs.YthkhflhmnjgbnaaGreatW.PrintLast Go.Proofs.YthkhflhmnjgbnaaGreatW.PrintMore
set_option linter.unusedVariables false
set_option linter.unusedSimpArgs false
theorem printed_spec (s : ByteArray) (hs : s.size ≤ 9223372036854775807) : Ev (fun k => spec_l2Printed.f k s) ((Y s).all prC) := by
 refine up_ind s.size (fun i => Ev (fun k => spec_l2Printed.l0 k s (i : Int)) (((Y s).drop i).all prC)) ?_ ?_ 0 (by omega)
 ·rw [Y_drop_end]
  exact ev_step (fun _ => spec_l2Printed.l0.eq_2 ..) (ev_neg (by omega) (ev_now _))
 ·intro i h ih
  refine ev_step (fun _ => spec_l2Printed.l0.eq_2 ..) (ev_pos (by omega) (ev_pos (by omega) ?_))
  rw [bt_at h, Y_drop h, List.all_cons, w64n h hs]
  unfold prC
  refine ev_ite (fun h1 => ?_) (fun h1 => ev_ite (fun h2 => ?_) (fun h2 => ?_))
  ·rw [decide_eq_false (by omega)]
   exact ev_now _
  ·rw [decide_eq_false (show ¬ _ ≤ (126 : Int) from by omega), Bool.and_false, Bool.false_and]
   exact ev_now _
  ·rw [decide_eq_true (by omega), decide_eq_true (by omega)]
   exact ih
theorem printed_impl (s : ByteArray) (hs : s.size ≤ 9223372036854775807) (n : Nat) : Ev (fun k => impl_printed.f k s (n : Int)) (prL n (Y s)) := by
 unfold impl_printed.f prL
 rw [Y_len]
 refine ev_ite (fun h => ?_) (fun h => ?_)
 ·rw [decide_eq_false (by omega)]
  exact ev_now _
 ·rw [decide_eq_true (by omega), Bool.true_and]
  refine up_ind s.size (fun i => Ev (fun k => impl_printed.l0 k s (s.size : Int) (i : Int)) (((Y s).drop i).all prC)) ?_ ?_ 0 (by omega)
  ·rw [Y_drop_end]
   exact ev_step (fun _ => impl_printed.l0.eq_2 ..) (ev_neg (by omega) (ev_now _))
  ·intro i h ih
   refine ev_step (fun _ => impl_printed.l0.eq_2 ..) (ev_pos (by omega) (ev_pos (by omega) (ev_pos (by omega) ?_)))
   rw [bt_at h, Y_drop h, List.all_cons, w64n h hs]
   unfold prC
   refine ev_ite (fun h1 => ?_) (fun h1 => ev_ite (fun h2 => ?_) (fun h2 => ?_))
   ·rw [decide_eq_false (by omega)]
    exact ev_now _
   ·rw [decide_eq_false (show ¬ _ ≤ (126 : Int) from by omega), Bool.and_false, Bool.false_and]
    exact ev_now _
   ·rw [decide_eq_true (by omega), decide_eq_true (by omega)]
    exact ih
end Go.Proofs.YthkhflhmnjgbnaaGreat.U
namespace Go.Proofs.YthkhflhmnjgbnaaGreat.U
open Go.RowKit Go.Proofs.YthkhflhmnjgbnaaGreat.Pr Go.Proofs.YthkhflhmnjgbnaaGreatW.PrintWords Go.Proofs.YthkhflhmnjgbnaaGreatW.PrintLast Go.Proofs.YthkhflhmnjgbnaaGreatW.PrintMore
set_option linter.unusedVariables false
set_option linter.unusedSimpArgs false
theorem digit_impl (c : UInt8) : impl_digitByte.f (c.toNat : Int) = some (digC c) := by
 unfold impl_digitByte.f digC
 by_cases h : (c.toNat : Int) ≥ 48
 ·rw [if_pos h, decide_eq_true (show 48 ≤ (c.toNat : Int) from h), Bool.true_and]
 ·rw [if_neg h, decide_eq_false (show ¬ 48 ≤ (c.toNat : Int) from h), Bool.false_and]
theorem digit_spec (c : UInt8) : spec_l2Digit.f (c.toNat : Int) = some (digC c) := by
 unfold spec_l2Digit.f digC
 by_cases h : (c.toNat : Int) ≥ 48
 ·rw [if_pos h, decide_eq_true (show 48 ≤ (c.toNat : Int) from h), Bool.true_and]
 ·rw [if_neg h, decide_eq_false (show ¬ 48 ≤ (c.toNat : Int) from h), Bool.false_and]
theorem letter_impl (c : UInt8) : impl_letterByte.f (c.toNat : Int) = some (letC c) := by
 unfold impl_letterByte.f letC
 by_cases h : (c.toNat : Int) ≥ 97 <;> by_cases h1 : (c.toNat : Int) ≤ 122 <;> by_cases h2 : (c.toNat : Int) ≥ 65 <;> by_cases h3 : (c.toNat : Int) ≤ 90 <;> simp [h, h1, h2, h3] <;> omega
theorem letter_spec (c : UInt8) : spec_l2Letter.f (c.toNat : Int) = some (letC c) := by
 unfold spec_l2Letter.f letC
 by_cases h : (c.toNat : Int) ≥ 97 <;> by_cases h1 : (c.toNat : Int) ≤ 122 <;> by_cases h2 : (c.toNat : Int) ≥ 65 <;> by_cases h3 : (c.toNat : Int) ≤ 90 <;> simp [h, h1, h2, h3] <;> omega
theorem word_impl (c : UInt8) : impl_wordByte.f (c.toNat : Int) = some (wordC c) := by
 unfold impl_wordByte.f wordC
 rw [letter_impl, digit_impl]
 cases letC c <;> cases digC c <;> simp <;> rfl
theorem name_loop_impl (s : ByteArray) (hs : s.size ≤ 9223372036854775807) : Ev (fun k => impl_isName.l0 k s (s.size : Int) 0) ((Y s).all wordC) := by
 refine up_ind s.size (fun i => Ev (fun k => impl_isName.l0 k s (s.size : Int) (i : Int)) (((Y s).drop i).all wordC)) ?_ ?_ 0 (by omega)
 ·rw [Y_drop_end]
  exact ev_step (fun _ => impl_isName.l0.eq_2 ..) (ev_neg (by omega) (ev_now _))
 ·intro i h ih
  refine ev_step (fun _ => impl_isName.l0.eq_2 ..) (ev_pos (by omega) (ev_pos (by omega) (ev_pos (by omega) ?_)))
  rw [bt_at h, Y_drop h, List.all_cons, w64n h hs]
  refine ev_bind (ev_eq (word_impl _)) (ev_ite (fun h1 => ?_) (fun h1 => ?_))
  ·rw [h1]
   exact ih
  ·rw [Bool.eq_false_iff.2 h1]
   exact ev_now _
theorem name_loop_spec (s : ByteArray) (hs : s.size ≤ 9223372036854775807) : Ev (fun k => spec_l2Name.l0 k s 0) ((Y s).all wordC) := by
 refine up_ind s.size (fun i => Ev (fun k => spec_l2Name.l0 k s (i : Int)) (((Y s).drop i).all wordC)) ?_ ?_ 0 (by omega)
 ·rw [Y_drop_end]
  exact ev_step (fun _ => spec_l2Name.l0.eq_2 ..) (ev_neg (by omega) (ev_now _))
 ·intro i h ih
  refine ev_step (fun _ => spec_l2Name.l0.eq_2 ..) (ev_pos (by omega) (ev_pos (by omega) ?_))
  rw [bt_at h, Y_drop h, List.all_cons, w64n h hs]
  unfold wordC
  refine ev_bind (ev_eq (letter_spec _)) (ev_ite (fun h1 => ?_) (fun h1 => ev_bind (ev_eq (digit_spec _)) (ev_ite (fun h2 => ?_) (fun h2 => ev_ite (fun h3 => ?_) (fun h3 => ?_)))))
  ·rw [h1]
   exact ih
  ·rw [h2, Bool.or_true]
   exact ih
  ·rw [decide_eq_true h3, Bool.or_true]
   exact ih
  ·rw [Bool.eq_false_iff.2 h1, Bool.eq_false_iff.2 h2, decide_eq_false h3]
   exact ev_now _
theorem name_impl (s : ByteArray) (hs : s.size ≤ 9223372036854775807) : Ev (fun k => impl_isName.f k s) (nameL (Y s)) := by
 unfold impl_isName.f nameL
 rw [Y_eq]
 refine ev_ite (fun h => ?_) (fun h => ?_)
 ·rw [h]
  exact ev_step (fun _ => impl_isName.j0.eq_2 ..) (ev_pos rfl (ev_now _))
 ·have hl : 1 ≤ (Y s).length := by
   cases e : Y s with
   | nil => exact absurd e h
   | cons a l => simp
  rw [decide_eq_true hl, Y_len, Bool.true_and]
  rw [Y_len] at hl
  refine ev_ite (fun h1 => ?_) (fun h1 => ev_pos (by omega) ?_)
  ·rw [decide_eq_false (by omega)]
   exact ev_step (fun _ => impl_isName.j0.eq_2 ..) (ev_pos rfl (ev_now _))
  ·rw [decide_eq_true (by omega), Bool.true_and]
   have e0 := bt_at (s := s) (i := 0) (by omega)
   have eh : (Y s).head? = some ((Y s)[0]'(by rw [Y_len]; omega)) := by rw [List.head?_eq_getElem?, List.getElem?_eq_getElem]
   rw [show bt s 0 = bt s ((0 : Nat) : Int) from rfl, e0, eh]
   refine ev_bind (ev_eq (digit_impl _)) (ev_step (fun _ => impl_isName.j0.eq_2 ..) (ev_ite (fun h2 => ?_) (fun h2 => ?_)))
   ·rw [Option.any_some, h2]
    exact ev_now _
   ·rw [Option.any_some, Bool.eq_false_iff.2 h2]
    exact name_loop_impl s hs
theorem name_spec (s : ByteArray) (hs : s.size ≤ 9223372036854775807) : Ev (fun k => spec_l2Name.f k s) (nameL (Y s)) := by
 unfold spec_l2Name.f nameL
 rw [Y_len]
 refine ev_ite (fun h => ?_) (fun h => ?_)
 ·rw [decide_eq_false (by omega)]
  exact ev_step (fun _ => spec_l2Name.j0.eq_2 ..) (ev_pos rfl (ev_now _))
 ·rw [decide_eq_true (by omega), Bool.true_and]
  refine ev_ite (fun h1 => ?_) (fun h1 => ev_pos (by omega) ?_)
  ·rw [decide_eq_false (by omega)]
   exact ev_step (fun _ => spec_l2Name.j0.eq_2 ..) (ev_pos rfl (ev_now _))
  ·rw [decide_eq_true (by omega), Bool.true_and]
   have e0 := bt_at (s := s) (i := 0) (by omega)
   have eh : (Y s).head? = some ((Y s)[0]'(by rw [Y_len]; omega)) := by rw [List.head?_eq_getElem?, List.getElem?_eq_getElem]
   rw [show bt s 0 = bt s ((0 : Nat) : Int) from rfl, e0, eh]
   refine ev_bind (ev_eq (digit_spec _)) (ev_step (fun _ => spec_l2Name.j0.eq_2 ..) (ev_ite (fun h2 => ?_) (fun h2 => ?_)))
   ·rw [Option.any_some, h2]
    exact ev_now _
   ·rw [Option.any_some, Bool.eq_false_iff.2 h2]
    exact name_loop_spec s hs
end Go.Proofs.YthkhflhmnjgbnaaGreat.U
namespace Go.Proofs.YthkhflhmnjgbnaaGreat.U
open Go.RowKit Go.Proofs.YthkhflhmnjgbnaaGreat.Pr Go.Proofs.YthkhflhmnjgbnaaGreatW.PrintWords Go.Proofs.YthkhflhmnjgbnaaGreatW.PrintLast Go.Proofs.YthkhflhmnjgbnaaGreatW.PrintMore
set_option linter.unusedVariables false
set_option linter.unusedSimpArgs false
theorem value_spec (s : ByteArray) (hs : s.size ≤ 9223372036854775807) : Ev (fun k => spec_l2Value.f k s) (valL (Y s)) := by
 unfold spec_l2Value.f valL prL
 rw [Y_len]
 refine ev_ite (fun h => ev_ite (fun h1 => ?_) (fun h1 => ?_)) (fun h => ?_)
 ·rw [decide_eq_true (by omega), decide_eq_true (by omega), Bool.true_and, Bool.true_and]
  exact ev_bind (printed_spec s hs) (ev_now _)
 ·rw [decide_eq_false (show ¬ s.size ≤ 100 from by omega), Bool.false_and, Bool.and_false]
  exact ev_now _
 ·rw [decide_eq_false (by omega), Bool.false_and]
  exact ev_now _
theorem value_impl (s : ByteArray) (hs : s.size ≤ 9223372036854775807) : Ev (fun k => impl_isValue.f k s) (valL (Y s)) := by
 unfold impl_isValue.f valL
 rw [Y_eq, ]
 refine ev_ite (fun h => ?_) (fun h => ?_)
 ·rw [h]
  exact ev_now _
 ·have : 1 ≤ (Y s).length := by
   cases e : Y s with
   | nil => exact absurd e h
   | cons a l => simp
  rw [decide_eq_true this, Bool.true_and]
  exact ev_bind (printed_impl s hs 100) (ev_now _)
end Go.Proofs.YthkhflhmnjgbnaaGreat.U
namespace Go.Proofs.YthkhflhmnjgbnaaGreat.U
open Go.RowKit Go.Proofs.YthkhflhmnjgbnaaGreat.Pr Go.Proofs.YthkhflhmnjgbnaaGreatW.PrintWords Go.Proofs.YthkhflhmnjgbnaaGreatW.PrintLast Go.Proofs.YthkhflhmnjgbnaaGreatW.PrintMore
set_option linter.unusedVariables false
set_option linter.unusedSimpArgs false
def before (p : Option (List UInt8)) (l : List UInt8) : Bool := match p with
 | none => true
 | some q => decide (cmpL q l < 0)
/-- Labels that are good, each name behind the one ahead. -/
def riseL (p : Option (List UInt8)) : List S79 → Bool
 | [] => true
 | x :: xs => nameL (Y x.f0) && valL (Y x.f1) && before p (Y x.f0) && riseL (some (Y x.f0)) xs
def goodL (l : List S79) : Bool := decide (l.length ≤ 20) && riseL none l
def ptL (l : List S79) (i : Nat) : Option (List UInt8) := if i = 0 then none else some (Y (rd_T79 l ((i - 1 : Nat) : Int)).f0)
/-- Texts that fit. -/
def fitL (l : List S79) : Prop := l.length ≤ 9223372036854775807 ∧ ∀ x ∈ l, x.f0.size ≤ 9223372036854775807 ∧ x.f1.size ≤ 9223372036854775807
theorem goodLabels_impl_l (l : List S79) (hf : fitL l) : Ev (fun k => impl_GoodLabels.l0 k l l (l.length : Int) 0) (riseL none l) := by
 obtain ⟨hl, hw⟩ := hf
 have hrd : ∀ (i : Nat) (h : i < l.length), rd_T79 l (i : Int) = l[i] := fun i h => getD_lt h
 refine up_ind l.length (fun i => Ev (fun k => impl_GoodLabels.l0 k l l (l.length : Int) (i : Int)) (riseL (ptL l i) (l.drop i))) ?_ ?_ 0 (by omega)
 ·rw [List.drop_length]
  exact ev_step (fun _ => impl_GoodLabels.l0.eq_2 ..) (ev_neg (by omega) (ev_now _))
 ·intro i h ih
  have hp : ptL l (i + 1) = some (Y l[i].f0) := by unfold ptL; rw [if_neg (by omega), Nat.add_sub_cancel, hrd i h]
  rw [hp] at ih
  obtain ⟨w1, w2⟩ := hw l[i] (List.getElem_mem h)
  have wi : wrap64 ((i : Int) + 1) = ((i + 1 : Nat) : Int) := w64n h hl
  refine ev_step (fun _ => impl_GoodLabels.l0.eq_2 ..) (ev_pos (by omega) (ev_pos (by omega) (ev_pos (by omega) ?_)))
  rw [hrd i h, List.drop_eq_getElem_cons h]
  simp only [riseL]
  refine ev_bind (name_impl _ w1) (ev_ite (fun h1 => ev_bind (value_impl _ w2) (ev_ite (fun h2 => ?_) (fun h2 => ?_))) (fun h1 => ?_))
  ·rw [h1, h2, Bool.true_and, Bool.true_and]
   by_cases hi : i = 0
   ·subst hi
    rw [wi]
    exact ev_neg (by omega) ih
   ·have wm : wrap64 ((i : Int) - 1) = ((i - 1 : Nat) : Int) := by rw [w64 (by omega) (by omega)]; omega
    have hq : ptL l i = some (Y l[i - 1].f0) := by unfold ptL; rw [if_neg hi, hrd (i - 1) (by omega)]
    obtain ⟨w3, _⟩ := hw l[i - 1] (List.getElem_mem (by omega))
    rw [wm, hrd (i - 1) (by omega), hq, wi]
    refine ev_pos (by omega) (ev_pos (by omega) (ev_pos (by omega) ?_))
    simp only [before]
    rw [Y_eq, Y_eq, less_cmp]
    refine ev_ite (fun h3 => ?_) (fun h3 => ?_)
    ·rw [h3, Bool.true_and]
     exact ih
    ·rw [Bool.eq_false_iff.2 h3, Bool.false_and]
     exact ev_now _
  ·rw [h1, Bool.eq_false_iff.2 h2]
   exact ev_now _
  ·rw [Bool.eq_false_iff.2 h1]
   exact ev_now _
theorem goodLabels_impl (l : List S79) (hf : fitL l) : Ev (fun k => impl_GoodLabels.f k l) (goodL l) := by
 unfold impl_GoodLabels.f goodL
 refine ev_ite (fun h => ?_) (fun h => ?_)
 ·rw [decide_eq_false (by omega)]
  exact ev_now _
 ·rw [decide_eq_true (by omega), Bool.true_and]
  exact goodLabels_impl_l l hf
theorem goodLabels_spec_l (l : List S79) (hf : fitL l) : Ev (fun k => spec_GoodLabels.l0 k l l (l.length : Int) 0) (riseL none l) := by
 obtain ⟨hl, hw⟩ := hf
 have hrd : ∀ (i : Nat) (h : i < l.length), rd_T79 l (i : Int) = l[i] := fun i h => getD_lt h
 refine up_ind l.length (fun i => Ev (fun k => spec_GoodLabels.l0 k l l (l.length : Int) (i : Int)) (riseL (ptL l i) (l.drop i))) ?_ ?_ 0 (by omega)
 ·rw [List.drop_length]
  exact ev_step (fun _ => spec_GoodLabels.l0.eq_2 ..) (ev_neg (by omega) (ev_now _))
 ·intro i h ih
  have hp : ptL l (i + 1) = some (Y l[i].f0) := by unfold ptL; rw [if_neg (by omega), Nat.add_sub_cancel, hrd i h]
  rw [hp] at ih
  obtain ⟨w1, w2⟩ := hw l[i] (List.getElem_mem h)
  have wi : wrap64 ((i : Int) + 1) = ((i + 1 : Nat) : Int) := w64n h hl
  refine ev_step (fun _ => spec_GoodLabels.l0.eq_2 ..) (ev_pos (by omega) (ev_pos (by omega) (ev_pos (by omega) ?_)))
  rw [hrd i h, List.drop_eq_getElem_cons h]
  simp only [riseL]
  refine ev_bind (name_spec _ w1) (ev_ite (fun h1 => ev_bind (value_spec _ w2) (ev_ite (fun h2 => ?_) (fun h2 => ?_))) (fun h1 => ?_))
  ·rw [h1, h2, Bool.true_and, Bool.true_and]
   by_cases hi : i = 0
   ·subst hi
    rw [wi]
    exact ev_neg (by omega) ih
   ·have wm : wrap64 ((i : Int) - 1) = ((i - 1 : Nat) : Int) := by rw [w64 (by omega) (by omega)]; omega
    have hq : ptL l i = some (Y l[i - 1].f0) := by unfold ptL; rw [if_neg hi, hrd (i - 1) (by omega)]
    obtain ⟨w3, _⟩ := hw l[i - 1] (List.getElem_mem (by omega))
    rw [wm, hrd (i - 1) (by omega), hq, wi]
    refine ev_pos (by omega) (ev_pos (by omega) (ev_pos (by omega) ?_))
    simp only [before]
    refine ev_bind (cmp_spec _ _ w3 w1) (ev_ite (fun h3 => ?_) (fun h3 => ?_))
    ·rw [decide_eq_false (by omega), Bool.false_and]
     exact ev_now _
    ·rw [decide_eq_true (by omega), Bool.true_and]
     exact ih
  ·rw [h1, Bool.eq_false_iff.2 h2]
   exact ev_now _
  ·rw [Bool.eq_false_iff.2 h1]
   exact ev_now _
theorem goodLabels_spec (l : List S79) (hf : fitL l) : Ev (fun k => spec_GoodLabels.f k l) (goodL l) := by
 unfold spec_GoodLabels.f goodL
 refine ev_ite (fun h => ?_) (fun h => ?_)
 ·rw [decide_eq_false (by omega)]
  exact ev_now _
 ·rw [decide_eq_true (by omega), Bool.true_and]
  exact goodLabels_spec_l l hf
end Go.Proofs.YthkhflhmnjgbnaaGreat.U
namespace Go.Proofs.YthkhflhmnjgbnaaGreat.U
open Go.RowKit Go.Proofs.YthkhflhmnjgbnaaGreat.Pr Go.Proofs.YthkhflhmnjgbnaaGreatW.PrintWords Go.Proofs.YthkhflhmnjgbnaaGreatW.PrintLast Go.Proofs.YthkhflhmnjgbnaaGreatW.PrintMore
set_option linter.unusedVariables false
set_option linter.unusedSimpArgs false
theorem cmpL_neg : ∀ a b : List UInt8, cmpL b a = - cmpL a b
 | [], [] => rfl
 | [], _ :: _ => rfl
 | _ :: _, [] => rfl
 | a :: l, b :: m => by
  simp only [cmpL]
  by_cases e : (a.toNat : Int) = (b.toNat : Int)
  ·rw [if_pos e, if_pos e.symm]
   exact cmpL_neg l m
  ·rw [if_neg e, if_neg (fun h => e h.symm)]
   by_cases h : (a.toNat : Int) < (b.toNat : Int)
   ·rw [if_pos h, if_neg (by omega)]
    rfl
   ·rw [if_neg h, if_pos (by omega)]
theorem cmpL_cases : ∀ a b : List UInt8, cmpL a b = -1 ∨ cmpL a b = 0 ∨ cmpL a b = 1
 | [], [] => .inr (.inl rfl)
 | [], _ :: _ => .inl rfl
 | _ :: _, [] => .inr (.inr rfl)
 | a :: l, b :: m => by
  simp only [cmpL]
  by_cases e : (a.toNat : Int) = (b.toNat : Int)
  ·rw [if_pos e]
   exact cmpL_cases l m
  ·rw [if_neg e]
   by_cases h : (a.toNat : Int) < (b.toNat : Int)
   ·rw [if_pos h]
    exact .inl rfl
   ·rw [if_neg h]
    exact .inr (.inr rfl)
/-- How two lists of labels stand to each other. -/
def cmpLL : List S79 → List S79 → Int
 | [], [] => 0
 | [], _ :: _ => -1
 | _ :: _, [] => 1
 | x :: xs, y :: ys => if cmpL (Y x.f0) (Y y.f0) = 0 then (if cmpL (Y x.f1) (Y y.f1) = 0 then cmpLL xs ys else cmpL (Y x.f1) (Y y.f1)) else cmpL (Y x.f0) (Y y.f0)
theorem cmpLL_spec (l m : List S79) (hl : fitL l) (hm : fitL m) : Ev (fun k => spec_l2Cmp.f k l m) (cmpLL l m) := by
 have hrd : ∀ (l : List S79) (i : Nat) (h : i < l.length), rd_T79 l (i : Int) = l[i] := fun l i h => getD_lt h
 refine up_ind (min l.length m.length) (fun i => Ev (fun k => spec_l2Cmp.l0 k l m (i : Int)) (cmpLL (l.drop i) (m.drop i))) ?_ ?_ 0 (by omega)
 ·generalize hq : min l.length m.length = q
  rcases Nat.lt_or_ge q l.length with h | h
  ·have e : q = m.length := by omega
   refine ev_step (fun _ => spec_l2Cmp.l0.eq_2 ..) (ev_pos (by omega) ?_)
   rw [decide_eq_false (by omega)]
   refine ev_step (fun _ => spec_l2Cmp.j1.eq_2 ..) (ev_neg (by decide) (ev_bind (ev_eq (cmpNum_spec _ _)) ?_))
   rw [List.drop_eq_getElem_cons h, show m.drop q = [] from by rw [e, List.drop_length]]
   unfold cn cmpLL
   rw [if_neg (by omega), if_pos (by omega)]
   exact ev_now _
  ·have e : q = l.length := by omega
   refine ev_step (fun _ => spec_l2Cmp.l0.eq_2 ..) (ev_neg (by omega) ?_)
   refine ev_step (fun _ => spec_l2Cmp.j1.eq_2 ..) (ev_neg (by decide) (ev_bind (ev_eq (cmpNum_spec _ _)) ?_))
   rw [e, List.drop_length]
   by_cases h2 : l.length < m.length
   ·rw [List.drop_eq_getElem_cons h2]
    unfold cn cmpLL
    rw [if_pos (by omega)]
    exact ev_now _
   ·have e2 : l.length = m.length := by omega
    rw [e2, List.drop_length]
    unfold cn cmpLL
    rw [if_neg (by omega), if_neg (by omega)]
    exact ev_now _
 ·intro i h ih
  have h1 : i < l.length := by omega
  have h2 : i < m.length := by omega
  obtain ⟨a1, a2⟩ := hl.2 l[i] (List.getElem_mem h1)
  obtain ⟨b1, b2⟩ := hm.2 m[i] (List.getElem_mem h2)
  refine ev_step (fun _ => spec_l2Cmp.l0.eq_2 ..) (ev_pos (by omega) ?_)
  rw [decide_eq_true (by omega)]
  refine ev_step (fun _ => spec_l2Cmp.j1.eq_2 ..) (ev_pos rfl (ev_pos (by omega) (ev_pos (by omega) (ev_pos (by omega) ?_))))
  rw [hrd l i h1, hrd m i h2, List.drop_eq_getElem_cons h1, List.drop_eq_getElem_cons h2, w64n h1 hl.1]
  simp only [cmpLL]
  refine ev_bind (cmp_spec _ _ a1 b1) (ev_ite (fun h3 => ev_bind (cmp_spec _ _ a2 b2) (ev_ite (fun h4 => ?_) (fun h4 => ?_))) (fun h3 => ?_))
  ·rw [if_pos h3, if_pos h4]
   exact ih
  ·rw [if_pos h3, if_neg h4]
   exact ev_now _
  ·rw [if_neg h3]
   exact ev_now _
theorem compare_str (a b : ByteArray) : cmp_Compare_string.f a b = some (cmpL (Y a) (Y b)) := by
 unfold cmp_Compare_string.f cmp_isNaN_string.f
 simp only [bne_self_eq_false, Option.bind_some]
 rw [if_neg (by decide), if_neg (by decide), Y_eq, Y_eq, less_cmp, less_cmp, cmpL_neg (Y a) (Y b)]
 rcases cmpL_cases (Y a) (Y b) with h | h | h <;> rw [h] <;> rfl
theorem compare_int (a b : Int) : cmp_Compare_int.f a b = some (cn a b) := by
 unfold cmp_Compare_int.f cmp_isNaN_int.f cn
 simp only [bne_self_eq_false, Option.bind_some]
 rw [if_neg (by decide), if_neg (by decide)]
 by_cases h : a < b
 ·rw [if_pos h, if_pos h]
 ·rw [if_neg h, if_neg h]
  by_cases h' : a > b
  ·rw [if_pos h', if_pos h']
  ·rw [if_neg h', if_neg h']
theorem or_two (a b : Int) : Ev (fun k => cmp_Or_int.f k [a, b]) (if a = 0 then b else a) := by
 unfold cmp_Or_int.f
 refine ev_step (fun _ => cmp_Or_int.l0.eq_2 ..) (ev_pos (by simp) (ev_pos (by simp) (ev_pos (by simp) ?_)))
 rw [show rd [a, b] 0 = a from rfl]
 refine ev_ite (fun h => ?_) (fun h => ?_)
 ·rw [if_pos h, show wrap64 (0 + 1) = 1 from (w64 (by omega) (by omega)).trans (by omega)]
  refine ev_step (fun _ => cmp_Or_int.l0.eq_2 ..) (ev_pos (by simp) (ev_pos (by simp) (ev_pos (by simp) ?_)))
  rw [show rd [a, b] 1 = b from rfl]
  refine ev_ite (fun h => ?_) (fun h => ev_now _)
  rw [h, show wrap64 (1 + 1) = 2 from (w64 (by omega) (by omega)).trans (by omega)]
  exact ev_step (fun _ => cmp_Or_int.l0.eq_2 ..) (ev_neg (by simp) (ev_now _))
 ·rw [if_neg h]
  exact ev_now _
theorem cmpLL_impl (l m : List S79) (hl : fitL l) (hm : fitL m) : Ev (fun k => impl_compare.f k l m) (cmpLL l m) := by
 have hrd : ∀ (l : List S79) (i : Nat) (h : i < l.length), rd_T79 l (i : Int) = l[i] := fun l i h => getD_lt h
 unfold impl_compare.f
 rw [show mn (l.length : Int) (m.length : Int) = ((min l.length m.length : Nat) : Int) from by unfold mn; split <;> omega]
 refine up_ind (min l.length m.length) (fun i => Ev (fun k => impl_compare.l0 k l m ((min l.length m.length : Nat) : Int) (i : Int)) (cmpLL (l.drop i) (m.drop i))) ?_ ?_ 0 (by omega)
 ·generalize hq : min l.length m.length = q
  refine ev_step (fun _ => impl_compare.l0.eq_2 ..) (ev_neg (by omega) (ev_bind (ev_eq (compare_int _ _)) ?_))
  rcases Nat.lt_or_ge q l.length with h | h
  ·have e : q = m.length := by omega
   rw [List.drop_eq_getElem_cons h, show m.drop q = [] from by rw [e, List.drop_length]]
   unfold cn cmpLL
   rw [if_neg (by omega), if_pos (by omega)]
   exact ev_now _
  ·have e : q = l.length := by omega
   rw [e, List.drop_length]
   by_cases h2 : l.length < m.length
   ·rw [List.drop_eq_getElem_cons h2]
    unfold cn cmpLL
    rw [if_pos (by omega)]
    exact ev_now _
   ·have e2 : l.length = m.length := by omega
    rw [e2, List.drop_length]
    unfold cn cmpLL
    rw [if_neg (by omega), if_neg (by omega)]
    exact ev_now _
 ·intro i h ih
  have h1 : i < l.length := by omega
  have h2 : i < m.length := by omega
  have hl1 := hl.1
  refine ev_step (fun _ => impl_compare.l0.eq_2 ..) (ev_pos (by omega) (ev_pos (by omega) (ev_pos (by omega) (ev_pos (by omega) ?_))))
  rw [hrd l i h1, hrd m i h2, List.drop_eq_getElem_cons h1, List.drop_eq_getElem_cons h2, w64n h1 hl1]
  refine ev_bind (ev_eq (compare_str _ _)) (ev_bind (ev_eq (compare_str _ _)) (ev_bind (or_two _ _) ?_))
  simp only [cmpLL]
  by_cases h3 : cmpL (Y l[i].f0) (Y m[i].f0) = 0
  ·rw [if_pos h3, if_pos h3]
   refine ev_ite (fun h4 => ?_) (fun h4 => ?_)
   ·rw [if_pos h4]
    exact ih
   ·rw [if_neg h4]
    exact ev_now _
  ·rw [if_neg h3, if_neg h3]
   exact ev_neg h3 (ev_now _)
end Go.Proofs.YthkhflhmnjgbnaaGreat.U
namespace Go.Proofs.YthkhflhmnjgbnaaGreat.U
open Go.RowKit Go.Proofs.YthkhflhmnjgbnaaGreat.Pr Go.Proofs.YthkhflhmnjgbnaaGreatW.PrintWords Go.Proofs.YthkhflhmnjgbnaaGreatW.PrintLast Go.Proofs.YthkhflhmnjgbnaaGreatW.PrintMore
set_option linter.unusedVariables false
set_option linter.unusedSimpArgs false
/-- The value under a name. -/
def ofL (n : ByteArray) : List S79 → ByteArray
 | [] => ⟨#[]⟩
 | x :: xs => if Y x.f0 = Y n then x.f1 else ofL n xs
end Go.Proofs.YthkhflhmnjgbnaaGreat.U
namespace Go.Proofs.YthkhflhmnjgbnaaGreat.U
open Go.RowKit Go.Proofs.YthkhflhmnjgbnaaGreat.Pr Go.Proofs.YthkhflhmnjgbnaaGreatW.PrintWords Go.Proofs.YthkhflhmnjgbnaaGreatW.PrintLast Go.Proofs.YthkhflhmnjgbnaaGreatW.PrintMore
set_option linter.unusedVariables false
set_option linter.unusedSimpArgs false
theorem of_impl (l : List S79) (hl : l.length ≤ 9223372036854775807) (n : ByteArray) : Ev (fun k => impl_valueOf.f k l n) (ofL n l) := by
 have hrd : ∀ (i : Nat) (h : i < l.length), rd_T79 l (i : Int) = l[i] := fun i h => getD_lt h
 refine up_ind l.length (fun i => Ev (fun k => impl_valueOf.l0 k n l (l.length : Int) (i : Int)) (ofL n (l.drop i))) ?_ ?_ 0 (by omega)
 ·rw [List.drop_length]
  exact ev_step (fun _ => impl_valueOf.l0.eq_2 ..) (ev_neg (by omega) (ev_now _))
 ·intro i h ih
  refine ev_step (fun _ => impl_valueOf.l0.eq_2 ..) (ev_pos (by omega) (ev_pos (by omega) (ev_pos (by omega) ?_)))
  rw [hrd i h, List.drop_eq_getElem_cons h, w64n h hl, Y_eq, Y_eq]
  simp only [ofL]
  refine ev_ite (fun h1 => ?_) (fun h1 => ?_)
  ·rw [if_pos h1]
   exact ev_now _
  ·rw [if_neg h1]
   exact ih
end Go.Proofs.YthkhflhmnjgbnaaGreat.U
namespace Go.Proofs.YthkhflhmnjgbnaaGreat.U
open Go.RowKit Go.Proofs.YthkhflhmnjgbnaaGreat.Pr Go.Proofs.YthkhflhmnjgbnaaGreatW.PrintWords Go.Proofs.YthkhflhmnjgbnaaGreatW.PrintLast Go.Proofs.YthkhflhmnjgbnaaGreatW.PrintMore
set_option linter.unusedVariables false
set_option linter.unusedSimpArgs false
theorem of_spec (l : List S79) (hl : l.length ≤ 9223372036854775807) (n : ByteArray) : Ev (fun k => spec_l2Of.f k l n) (ofL n l) := by
 have hrd : ∀ (i : Nat) (h : i < l.length), rd_T79 l (i : Int) = l[i] := fun i h => getD_lt h
 refine up_ind l.length (fun i => Ev (fun k => spec_l2Of.l0 k n l (l.length : Int) (i : Int)) (ofL n (l.drop i))) ?_ ?_ 0 (by omega)
 ·rw [List.drop_length]
  exact ev_step (fun _ => spec_l2Of.l0.eq_2 ..) (ev_neg (by omega) (ev_now _))
 ·intro i h ih
  refine ev_step (fun _ => spec_l2Of.l0.eq_2 ..) (ev_pos (by omega) (ev_pos (by omega) (ev_pos (by omega) ?_)))
  rw [hrd i h, List.drop_eq_getElem_cons h, w64n h hl, Y_eq, Y_eq]
  simp only [ofL]
  refine ev_ite (fun h1 => ?_) (fun h1 => ?_)
  ·rw [if_pos h1]
   exact ev_now _
  ·rw [if_neg h1]
   exact ih
end Go.Proofs.YthkhflhmnjgbnaaGreat.U
namespace Go.Proofs.YthkhflhmnjgbnaaGreat.U
open Go.RowKit Go.Proofs.YthkhflhmnjgbnaaGreat.Pr Go.Proofs.YthkhflhmnjgbnaaGreatW.PrintWords Go.Proofs.YthkhflhmnjgbnaaGreatW.PrintLast Go.Proofs.YthkhflhmnjgbnaaGreatW.PrintMore
set_option linter.unusedVariables false
set_option linter.unusedSimpArgs false
def sm104 (x : S104) : Prop := x.f0.size ≤ 1048576 ∧ x.f1.size ≤ 1048576
def cv104 (x : S104) : S79 := ⟨x.f0, x.f1⟩
theorem toLabel (x : S104) (hx : sm104 x) : Ev (fun _ => laws_toLabel.f x.f0 x.f1) (x.f0, x.f1) := by
 obtain ⟨h0, h1⟩ := hx
 unfold laws_toLabel.f
 exact ev_now _
theorem eqLabel (x : S79) : Ev (fun _ => laws_eqLabel.f x.f0 x.f1 x.f0 x.f1) true := ev_eq (by simp [laws_eqLabel.f])
def sw104 (x : S104) : Prop := (x.f0.size ≤ maxLen) ∧ (x.f1.size ≤ maxLen)
theorem szLabel (x : S104) (c : Int) (h0 : 0 ≤ c) (h1 : c ≤ 1048576) (hw : sw104 x) : ∃ r, Ev (fun _ => laws_szLabel.f x.f0 x.f1 c) r ∧ r ≤ c ∧ (0 ≤ r → sm104 x) := by
 obtain ⟨w0, w1⟩ := hw
 unfold laws_szLabel.f
 simp only [maxLen] at w0
 rw [w64 (x := c - (x.f0.size : Int)) (by omega) (by omega)]
 by_cases n0 : c - (x.f0.size : Int) < 0
 ·exact ⟨-1, ev_pos n0 (ev_now _), by omega, fun h => absurd h (by decide)⟩
 ·skip
  simp only [maxLen] at w1
  rw [w64 (x := (c - (x.f0.size : Int)) - (x.f1.size : Int)) (by omega) (by omega)]
  by_cases n1 : (c - (x.f0.size : Int)) - (x.f1.size : Int) < 0
  ·exact ⟨-1, ev_neg n0 (ev_pos n1 (ev_now _)), by omega, fun h => absurd h (by decide)⟩
  ·skip
   exact ⟨_, ev_neg n0 (ev_neg n1 (ev_now _)), by omega, fun _ => ⟨by omega, by omega⟩⟩
end Go.Proofs.YthkhflhmnjgbnaaGreat.U
namespace Go.Proofs.YthkhflhmnjgbnaaGreat.U
open Go.RowKit Go.Proofs.YthkhflhmnjgbnaaGreat.Pr Go.Proofs.YthkhflhmnjgbnaaGreatW.PrintWords Go.Proofs.YthkhflhmnjgbnaaGreatW.PrintLast Go.Proofs.YthkhflhmnjgbnaaGreatW.PrintMore
set_option linter.unusedVariables false
set_option linter.unusedSimpArgs false
theorem markText_l (m : Nat) : ∀ (c : Int) (s : ByteArray), 0 ≤ c → c < 10 ^ m → c ≤ 9223372036854775807 → s.size + m < 1000 → ∃ r, Ev (fun k => laws_markText.l0 k c s) r := by
 induction m with
 | zero =>
  intro c s h0 h1 _ h2
  simp at h1
  have hs : 1 + s.size ≤ 9223372036854775807 := by omega
  exact ⟨_, ev_step (fun _ => laws_markText.l0.eq_2 ..) (ev_neg (by omega) (ev_pos hs (ev_now _)))⟩
 | succ m ih =>
  intro c s h0 h1 h1' h2
  by_cases hc : c > 0
  ·rw [Int.pow_succ] at h1
   have e : wrap64 (Int.tdiv c 10) = c / 10 := by rw [Int.tdiv_eq_ediv_of_nonneg h0, w64 (by omega) (by omega)]
   have hz : ∀ x : Int, (strOfNums [x]).size = 1 := fun x => strOfNums_size [x]
   obtain ⟨r, hr⟩ := ih (c / 10) (strOfNums [wrap64 (48 + Int.tmod c 10) % 256] ++ s) (by omega) (by generalize (10 : Int) ^ m = p at h1 ⊢; omega) (by omega) (by rw [ByteArray.size_append, hz]; omega)
   refine ⟨r, ev_step (fun _ => laws_markText.l0.eq_2 ..) (ev_pos hc (ev_some (ev_pos (by rw [hz]; omega) ?_)))⟩
   rw [e]
   exact hr
  ·have hs : 1 + s.size ≤ 9223372036854775807 := by omega
   exact ⟨_, ev_step (fun _ => laws_markText.l0.eq_2 ..) (ev_neg hc (ev_pos hs (ev_now _)))⟩
theorem markText (c : Int) (h0 : 0 < c) (h1 : c ≤ 9223372036854775807) : ∃ r, Ev (fun k => laws_markText.f k c) r := by
 obtain ⟨r, hr⟩ := markText_l 19 c ⟨#[]⟩ (by omega) (Int.lt_of_le_of_lt h1 (by decide)) h1 (by decide)
 refine ⟨r, ?_⟩
 unfold laws_markText.f
 exact ev_neg (by omega) hr
end Go.Proofs.YthkhflhmnjgbnaaGreat.U
namespace Go.Proofs.YthkhflhmnjgbnaaGreat.U
open Go.RowKit Go.Proofs.YthkhflhmnjgbnaaGreat.Pr Go.Proofs.YthkhflhmnjgbnaaGreatW.PrintWords Go.Proofs.YthkhflhmnjgbnaaGreatW.PrintLast Go.Proofs.YthkhflhmnjgbnaaGreatW.PrintMore
set_option linter.unusedVariables false
set_option linter.unusedSimpArgs false
theorem toLabelS (l : List (S104)) (hl : (l.length ≤ 1048576 ∧ ∀ y ∈ l, sm104 y)) : Ev (fun k => laws_toLabelS.f k l) (l.map cv104) := by
 obtain ⟨hl, hs⟩ := hl
 unfold laws_toLabelS.f
 repeat (first | (with_reducible refine ev_pos (by first | omega | rfl | decide) ?_) | (with_reducible refine ev_neg (by first | omega | decide) ?_))
 have key := ev_copy (F := fun k y i => laws_toLabelS.l0 k l y i) cv104 l (List.replicate ((l.length : Int) : Int).toNat z79) (by simp) ?step ?done
 case step =>
  intro i h y r hy hr
  refine ev_step (fun _ => laws_toLabelS.l0.eq_2 ..) ?_
  repeat (first | (with_reducible refine ev_pos (by first | omega | rfl | decide) ?_) | (with_reducible refine ev_neg (by first | omega | decide) ?_))
  rw [(show rd_T104 l (i : Int) = l[i] from getD_lt h)]
  refine ev_bind (toLabel l[i] (hs _ (List.getElem_mem h))) ?_
  repeat (first | (with_reducible refine ev_pos (by first | omega | rfl | decide) ?_) | (with_reducible refine ev_neg (by first | omega | decide) ?_))
  rw [w64n h (by omega), Int.toNat_natCast]
  exact hr
 case done =>
  intro y hy
  refine ev_step (fun _ => laws_toLabelS.l0.eq_2 ..) ?_
  repeat (first | (with_reducible refine ev_pos (by first | omega | rfl | decide) ?_) | (with_reducible refine ev_neg (by first | omega | decide) ?_))
  exact ev_now _
 exact key
theorem eqLabelS (l : List (S79)) (hl : l.length ≤ 1048576) : Ev (fun k => laws_eqLabelS.f k l l) true := by
 unfold laws_eqLabelS.f
 refine ev_pos rfl ?_
 refine up_ind l.length (fun i => Ev (fun k => laws_eqLabelS.l0 k l l (i : Int)) true) ?_ ?_ 0 (by omega)
 ·refine ev_step (fun _ => laws_eqLabelS.l0.eq_2 ..) ?_
  refine ev_neg (by omega) ?_
  exact ev_now _
 ·intro i h ih
  refine ev_step (fun _ => laws_eqLabelS.l0.eq_2 ..) ?_
  repeat (first | (with_reducible refine ev_pos (by first | omega | rfl | decide) ?_) | (with_reducible refine ev_neg (by first | omega | decide) ?_))
  refine ev_bind (eqLabel _) ?_
  refine ev_pos rfl ?_
  rw [w64n h (by omega)]
  exact ih
theorem szLabelS (l : List (S104)) (c : Int) (h0 : 0 ≤ c) (h1 : c ≤ 1048576) (hl : l.length ≤ maxLen) (hw : ∀ x ∈ l, sw104 x) : ∃ r, Ev (fun k => laws_szLabelS.f k l c) r ∧ r ≤ c ∧ (0 ≤ r → (l.length ≤ 1048576 ∧ ∀ y ∈ l, sm104 y)) := by
 simp only [maxLen] at hl
 unfold laws_szLabelS.f
 rw [w64 (x := c - (l.length : Int)) (by omega) (by omega)]
 by_cases hn : c - (l.length : Int) < 0
 ·exact ⟨-1, ev_pos hn (ev_now _), by omega, fun h => absurd h (by decide)⟩
 ·have key := up_ind l.length (fun i => ∀ c : Int, 0 ≤ c → c ≤ 1048576 → ∃ r, Ev (fun k => laws_szLabelS.l0 k l c (i : Int)) r ∧ r ≤ c ∧ (0 ≤ r → ∀ j (h : j < l.length), i ≤ j → sm104 l[j])) ?d ?s 0 (by omega) (c - (l.length : Int)) (by omega) (by omega)
  case d => exact fun c h0 h1 => ⟨c, ev_step (fun _ => laws_szLabelS.l0.eq_2 ..) (ev_neg (by omega) (ev_now _)), Int.le_refl _, fun _ j h hj => by omega⟩
  case s =>
   intro i h ih c h0 h1
   obtain ⟨r1, e1, hr1, hs1⟩ := szLabel l[i] c h0 h1 (hw _ (List.getElem_mem h))
   by_cases hr : r1 < 0
   ·refine ⟨-1, ev_step (fun _ => laws_szLabelS.l0.eq_2 ..) ?_, by omega, fun h => absurd h (by decide)⟩
    repeat (first | (with_reducible refine ev_pos (by first | omega | rfl | decide) ?_) | (with_reducible refine ev_neg (by first | omega | decide) ?_))
    rw [(show rd_T104 l (i : Int) = l[i] from getD_lt h)]
    exact ev_bind e1 (ev_pos hr (ev_now _))
   ·obtain ⟨r, e, hrc, hs⟩ := ih (r1) (by omega) (by omega)
    refine ⟨r, ev_step (fun _ => laws_szLabelS.l0.eq_2 ..) ?_, by omega, fun h2 j hj hij => ?_⟩
    ·repeat (first | (with_reducible refine ev_pos (by first | omega | rfl | decide) ?_) | (with_reducible refine ev_neg (by first | omega | decide) ?_))
     rw [(show rd_T104 l (i : Int) = l[i] from getD_lt h)]
     refine ev_bind e1 (ev_neg hr ?_)
     rw [w64n h (by omega)]
     exact e
    ·by_cases ej : j = i
     ·subst ej
      exact hs1 (by omega)
     ·exact hs h2 j hj (by omega)
  obtain ⟨r, e, hrc, hs⟩ := key
  refine ⟨r, ev_neg hn e, by omega, fun h => ⟨by omega, fun y hy => ?_⟩⟩
  obtain ⟨j, hj, rfl⟩ := List.getElem_of_mem hy
  exact hs h j hj (by omega)
theorem markLabelS (l : List (S79)) (hl : l.length ≤ 1048576) (c : Int) (h0 : 0 < c) (h1 : c ≤ 4611686018427387904) : ∃ y c', Ev (fun k => laws_markLabelS.f k l c) (c', y) ∧ Ev (fun k => laws_heldLabelS.f k y c) c' ∧ c ≤ c' ∧ c' ≤ c + 2 * l.length := by
 have key := up_ind l.length (fun i => ∀ (x : List (S79)) (c : Int), x.length = l.length → 0 < c → c + 2 * (l.length - i : Nat) ≤ 9000000000000000000 → ∃ y c', Ev (fun k => laws_markLabelS.l0 k x c (i : Int)) (c', y) ∧ Ev (fun k => laws_heldLabelS.l0 k y c (i : Int)) c' ∧ y.length = l.length ∧ (∀ j, j < i → y[j]? = x[j]?) ∧ c ≤ c' ∧ c' ≤ c + 2 * (l.length - i : Nat)) ?d ?s 0 (by omega) l c rfl h0 (by omega)
 case d =>
  intro x c hx h0 h1
  refine ⟨x, c, ev_step (fun _ => laws_markLabelS.l0.eq_2 ..) (ev_neg (by omega) (ev_now _)), ev_step (fun _ => laws_heldLabelS.l0.eq_2 ..) (ev_neg (by omega) (ev_now _)), hx, fun _ _ => rfl, by omega, by omega⟩
 case s =>
  intro i h ih x c hx h0 h1
  obtain ⟨s0, es0⟩ := markText (c) (by omega) (by omega)
  obtain ⟨s1, es1⟩ := markText (c + 1) (by omega) (by omega)
  have w1 : wrap64 (c + 1) = c + 1 := (w64 (by omega) (by omega)).trans (by omega)
  have w2 : wrap64 ((c + 1) + 1) = c + 2 := (w64 (by omega) (by omega)).trans (by omega)
  have wi : wrap64 ((i : Int) + 1) = ((i + 1 : Nat) : Int) := w64n h (by omega)
  have hset : ∀ a, rd_T79 (x.set i a) (i : Int) = a := fun a => by rw [show rd_T79 (x.set i a) (i : Int) = (x.set i a)[i]'(by simp; omega) from getD_lt (by simp; omega)]; simp
  obtain ⟨y, c', e1, e2, hy, hj, q1, q2⟩ := ih (x.set i ⟨s0, s1⟩) (c + 2) (by simp [hx]) (by omega) (by omega)
  refine ⟨y, c', ev_step (fun _ => laws_markLabelS.l0.eq_2 ..) ?_, ev_step (fun _ => laws_heldLabelS.l0.eq_2 ..) ?_, hy, fun j h' => ?_, by omega, by omega⟩
  ·simp only [w1, w2, wi, Int.toNat_natCast]
   repeat (first | (with_reducible refine ev_pos (by first | omega | rfl | decide) ?_) | (with_reducible refine ev_some ?_) | (with_reducible refine ev_bind es0 ?_) | (with_reducible refine ev_bind es1 ?_))
   simp only [hset, List.set_set]
   exact e1
  ·have ey : rd_T79 y (i : Int) = ⟨s0, s1⟩ := by
    have := hj i (by omega)
    rw [List.getElem?_set_self (by omega), List.getElem?_eq_getElem (by omega)] at this
    rw [show rd_T79 y (i : Int) = y[i]'(by omega) from getD_lt (by omega)]
    exact Option.some.inj this
   simp only [ey, w1, w2, wi]
   repeat (first | (with_reducible refine ev_pos (by first | omega | rfl | decide) ?_) | (with_reducible refine ev_bind es0 ?_) | (with_reducible refine ev_bind es1 ?_))
   exact e2
  ·rw [hj j (by omega), List.getElem?_set_ne (by omega)]
 obtain ⟨y, c', e1, e2, _, _, q1, q2⟩ := key
 exact ⟨y, c', e1, e2, q1, by omega⟩
end Go.Proofs.YthkhflhmnjgbnaaGreat.U
namespace Go.Proofs.YthkhflhmnjgbnaaGreat.U
open Go.RowKit Go.Proofs.YthkhflhmnjgbnaaGreat.Pr Go.Proofs.YthkhflhmnjgbnaaGreatW.PrintWords Go.Proofs.YthkhflhmnjgbnaaGreatW.PrintLast Go.Proofs.YthkhflhmnjgbnaaGreatW.PrintMore
set_option linter.unusedVariables false
set_option linter.unusedSimpArgs false
def cv111 (x : S111) : S69 := ⟨x.f0, x.f1⟩
theorem toSample (x : S111) : Ev (fun _ => laws_toSample.f x.f0 x.f1) (x.f0, x.f1) := by
 unfold laws_toSample.f
 exact ev_now _
theorem eqSample (x : S69) : Ev (fun _ => laws_eqSample.f x.f0 x.f1 x.f0 x.f1) true := ev_eq (by simp [laws_eqSample.f])
end Go.Proofs.YthkhflhmnjgbnaaGreat.U
namespace Go.Proofs.YthkhflhmnjgbnaaGreat.U
open Go.RowKit Go.Proofs.YthkhflhmnjgbnaaGreat.Pr Go.Proofs.YthkhflhmnjgbnaaGreatW.PrintWords Go.Proofs.YthkhflhmnjgbnaaGreatW.PrintLast Go.Proofs.YthkhflhmnjgbnaaGreatW.PrintMore
set_option linter.unusedVariables false
set_option linter.unusedSimpArgs false
theorem toSampleS (l : List (S111)) (hl : l.length ≤ 1048576) : Ev (fun k => laws_toSampleS.f k l) (l.map cv111) := by
 unfold laws_toSampleS.f
 repeat (first | (with_reducible refine ev_pos (by first | omega | rfl | decide) ?_) | (with_reducible refine ev_neg (by first | omega | decide) ?_))
 have key := ev_copy (F := fun k y i => laws_toSampleS.l0 k l y i) cv111 l (List.replicate ((l.length : Int) : Int).toNat z69) (by simp) ?step ?done
 case step =>
  intro i h y r hy hr
  refine ev_step (fun _ => laws_toSampleS.l0.eq_2 ..) ?_
  repeat (first | (with_reducible refine ev_pos (by first | omega | rfl | decide) ?_) | (with_reducible refine ev_neg (by first | omega | decide) ?_))
  rw [(show rd_T111 l (i : Int) = l[i] from getD_lt h)]
  refine ev_bind (toSample l[i] ) ?_
  repeat (first | (with_reducible refine ev_pos (by first | omega | rfl | decide) ?_) | (with_reducible refine ev_neg (by first | omega | decide) ?_))
  rw [w64n h (by omega), Int.toNat_natCast]
  exact hr
 case done =>
  intro y hy
  refine ev_step (fun _ => laws_toSampleS.l0.eq_2 ..) ?_
  repeat (first | (with_reducible refine ev_pos (by first | omega | rfl | decide) ?_) | (with_reducible refine ev_neg (by first | omega | decide) ?_))
  exact ev_now _
 exact key
theorem eqSampleS (l : List (S69)) (hl : l.length ≤ 1048576) : Ev (fun k => laws_eqSampleS.f k l l) true := by
 unfold laws_eqSampleS.f
 refine ev_pos rfl ?_
 refine up_ind l.length (fun i => Ev (fun k => laws_eqSampleS.l0 k l l (i : Int)) true) ?_ ?_ 0 (by omega)
 ·refine ev_step (fun _ => laws_eqSampleS.l0.eq_2 ..) ?_
  refine ev_neg (by omega) ?_
  exact ev_now _
 ·intro i h ih
  refine ev_step (fun _ => laws_eqSampleS.l0.eq_2 ..) ?_
  repeat (first | (with_reducible refine ev_pos (by first | omega | rfl | decide) ?_) | (with_reducible refine ev_neg (by first | omega | decide) ?_))
  refine ev_bind (eqSample _) ?_
  refine ev_pos rfl ?_
  rw [w64n h (by omega)]
  exact ih
theorem szSampleS (l : List (S111)) (c : Int) (h0 : 0 ≤ c) (h1 : c ≤ 1048576) (hl : l.length ≤ maxLen)  : ∃ r, Ev (fun _ => laws_szSampleS.f l c) r ∧ r ≤ c ∧ (0 ≤ r → l.length ≤ 1048576) := by
 simp only [maxLen] at hl
 unfold laws_szSampleS.f
 rw [w64 (x := c - (l.length : Int)) (by omega) (by omega)]
 by_cases hn : c - (l.length : Int) < 0
 ·exact ⟨-1, ev_pos hn (ev_now _), by omega, fun h => absurd h (by decide)⟩
 ·exact ⟨_, ev_neg hn (ev_now _), by omega, fun _ => by omega⟩
theorem markSampleS (l : List (S69)) (hl : l.length ≤ 1048576) (c : Int) (h0 : 0 < c) (h1 : c ≤ 4611686018427387904) : ∃ y c', Ev (fun k => laws_markSampleS.f k l c) (c', y) ∧ Ev (fun k => laws_heldSampleS.f k y c) c' ∧ c ≤ c' ∧ c' ≤ c + 2 * l.length := by
 have key := up_ind l.length (fun i => ∀ (x : List (S69)) (c : Int), x.length = l.length → 0 < c → c + 2 * (l.length - i : Nat) ≤ 9000000000000000000 → ∃ y c', Ev (fun k => laws_markSampleS.l0 k x c (i : Int)) (c', y) ∧ Ev (fun k => laws_heldSampleS.l0 k y c (i : Int)) c' ∧ y.length = l.length ∧ (∀ j, j < i → y[j]? = x[j]?) ∧ c ≤ c' ∧ c' ≤ c + 2 * (l.length - i : Nat)) ?d ?s 0 (by omega) l c rfl h0 (by omega)
 case d =>
  intro x c hx h0 h1
  refine ⟨x, c, ev_step (fun _ => laws_markSampleS.l0.eq_2 ..) (ev_neg (by omega) (ev_now _)), ev_step (fun _ => laws_heldSampleS.l0.eq_2 ..) (ev_neg (by omega) (ev_now _)), hx, fun _ _ => rfl, by omega, by omega⟩
 case s =>
  intro i h ih x c hx h0 h1
  have w1 : wrap64 (c + 1) = c + 1 := (w64 (by omega) (by omega)).trans (by omega)
  have w2 : wrap64 ((c + 1) + 1) = c + 2 := (w64 (by omega) (by omega)).trans (by omega)
  have wi : wrap64 ((i : Int) + 1) = ((i + 1 : Nat) : Int) := w64n h (by omega)
  have hset : ∀ a, rd_T69 (x.set i a) (i : Int) = a := fun a => by rw [show rd_T69 (x.set i a) (i : Int) = (x.set i a)[i]'(by simp; omega) from getD_lt (by simp; omega)]; simp
  obtain ⟨y, c', e1, e2, hy, hj, q1, q2⟩ := ih (x.set i ⟨c, (c + 1)⟩) (c + 2) (by simp [hx]) (by omega) (by omega)
  refine ⟨y, c', ev_step (fun _ => laws_markSampleS.l0.eq_2 ..) ?_, ev_step (fun _ => laws_heldSampleS.l0.eq_2 ..) ?_, hy, fun j h' => ?_, by omega, by omega⟩
  ·simp only [w1, w2, wi, Int.toNat_natCast]
   repeat (first | (with_reducible refine ev_pos (by first | omega | rfl | decide) ?_) | (with_reducible refine ev_some ?_))
   simp only [hset, List.set_set]
   exact e1
  ·have ey : rd_T69 y (i : Int) = ⟨c, (c + 1)⟩ := by
    have := hj i (by omega)
    rw [List.getElem?_set_self (by omega), List.getElem?_eq_getElem (by omega)] at this
    rw [show rd_T69 y (i : Int) = y[i]'(by omega) from getD_lt (by omega)]
    exact Option.some.inj this
   simp only [ey, w1, w2, wi]
   repeat (first | (with_reducible refine ev_pos (by first | omega | rfl | decide) ?_))
   exact e2
  ·rw [hj j (by omega), List.getElem?_set_ne (by omega)]
 obtain ⟨y, c', e1, e2, _, _, q1, q2⟩ := key
 exact ⟨y, c', e1, e2, q1, by omega⟩
end Go.Proofs.YthkhflhmnjgbnaaGreat.U
namespace Go.Proofs.YthkhflhmnjgbnaaGreat.U
open Go.RowKit Go.Proofs.YthkhflhmnjgbnaaGreat.Pr Go.Proofs.YthkhflhmnjgbnaaGreatW.PrintWords Go.Proofs.YthkhflhmnjgbnaaGreatW.PrintLast Go.Proofs.YthkhflhmnjgbnaaGreatW.PrintMore
set_option linter.unusedVariables false
set_option linter.unusedSimpArgs false
def sm65 (x : S65) : Prop := (x.f0.length ≤ 1048576 ∧ ∀ y ∈ x.f0, sm104 y) ∧ x.f1.length ≤ 1048576
def cv65 (x : S65) : S56 := ⟨x.f0.map cv104, x.f1.map cv111⟩
theorem toSeries (x : S65) (hx : sm65 x) : Ev (fun k => laws_toSeries.f k x.f0 x.f1) (x.f0.map cv104, x.f1.map cv111) := by
 obtain ⟨h0, h1⟩ := hx
 unfold laws_toSeries.f
 refine ev_bind (toLabelS _ h0) ?_
 refine ev_bind (toSampleS _ h1) ?_
 exact ev_now _
def se56 (x : S56) : Prop := (x.f0.length ≤ 1048576) ∧ (x.f1.length ≤ 1048576)
theorem eqSeries (x : S56) (hx : se56 x) : Ev (fun k => laws_eqSeries.f k x.f0 x.f1 x.f0 x.f1) true := by
 obtain ⟨h0, h1⟩ := hx
 unfold laws_eqSeries.f
 refine ev_bind (eqLabelS _ h0) ?_
 refine ev_pos rfl ?_
 refine ev_bind (eqSampleS _ h1) ?_
 refine ev_pos rfl ?_
 exact ev_now _
def sw65 (x : S65) : Prop := (x.f0.length ≤ maxLen ∧ ∀ y ∈ x.f0, sw104 y) ∧ (x.f1.length ≤ maxLen ∧ ∀ y ∈ x.f1, ((-9223372036854775808 ≤ (y.f0 : Int) ∧ (y.f0 : Int) ≤ 9223372036854775807)) ∧ ((-9223372036854775808 ≤ (y.f1 : Int) ∧ (y.f1 : Int) ≤ 9223372036854775807)))
theorem szSeries (x : S65) (c : Int) (h0 : 0 ≤ c) (h1 : c ≤ 1048576) (hw : sw65 x) : ∃ r, Ev (fun k => laws_szSeries.f k x.f0 x.f1 c) r ∧ r ≤ c ∧ (0 ≤ r → sm65 x) := by
 obtain ⟨w0, w1⟩ := hw
 unfold laws_szSeries.f
 obtain ⟨r0, e0, q0, s0⟩ := szLabelS x.f0 c (by omega) (by omega) w0.1 w0.2
 by_cases n0 : r0 < 0
 ·exact ⟨-1, ev_bind e0 (ev_pos n0 (ev_now _)), by omega, fun h => absurd h (by decide)⟩
 ·skip
  obtain ⟨r1, e1, q1, s1⟩ := szSampleS x.f1 r0 (by omega) (by omega) w1.1
  by_cases n1 : r1 < 0
  ·exact ⟨-1, ev_bind e0 (ev_neg n0 (ev_bind e1 (ev_pos n1 (ev_now _)))), by omega, fun h => absurd h (by decide)⟩
  ·skip
   exact ⟨_, ev_bind e0 (ev_neg n0 (ev_bind e1 (ev_neg n1 (ev_now _)))), by omega, fun _ => ⟨s0 (by omega), s1 (by omega)⟩⟩
end Go.Proofs.YthkhflhmnjgbnaaGreat.U
namespace Go.Proofs.YthkhflhmnjgbnaaGreat.U
open Go.RowKit Go.Proofs.YthkhflhmnjgbnaaGreat.Pr Go.Proofs.YthkhflhmnjgbnaaGreatW.PrintWords Go.Proofs.YthkhflhmnjgbnaaGreatW.PrintLast Go.Proofs.YthkhflhmnjgbnaaGreatW.PrintMore
set_option linter.unusedVariables false
set_option linter.unusedSimpArgs false
theorem toSeriesS (l : List (S65)) (hl : (l.length ≤ 1048576 ∧ ∀ y ∈ l, sm65 y)) : Ev (fun k => laws_toSeriesS.f k l) (l.map cv65) := by
 obtain ⟨hl, hs⟩ := hl
 unfold laws_toSeriesS.f
 repeat (first | (with_reducible refine ev_pos (by first | omega | rfl | decide) ?_) | (with_reducible refine ev_neg (by first | omega | decide) ?_))
 have key := ev_copy (F := fun k y i => laws_toSeriesS.l0 k l y i) cv65 l (List.replicate ((l.length : Int) : Int).toNat z56) (by simp) ?step ?done
 case step =>
  intro i h y r hy hr
  refine ev_step (fun _ => laws_toSeriesS.l0.eq_2 ..) ?_
  repeat (first | (with_reducible refine ev_pos (by first | omega | rfl | decide) ?_) | (with_reducible refine ev_neg (by first | omega | decide) ?_))
  rw [(show rd_T65 l (i : Int) = l[i] from getD_lt h)]
  refine ev_bind (toSeries l[i] (hs _ (List.getElem_mem h))) ?_
  repeat (first | (with_reducible refine ev_pos (by first | omega | rfl | decide) ?_) | (with_reducible refine ev_neg (by first | omega | decide) ?_))
  rw [w64n h (by omega), Int.toNat_natCast]
  exact hr
 case done =>
  intro y hy
  refine ev_step (fun _ => laws_toSeriesS.l0.eq_2 ..) ?_
  repeat (first | (with_reducible refine ev_pos (by first | omega | rfl | decide) ?_) | (with_reducible refine ev_neg (by first | omega | decide) ?_))
  exact ev_now _
 exact key
theorem eqSeriesS (l : List (S56)) (hl : l.length ≤ 1048576) (hs : ∀ x ∈ l, se56 x) : Ev (fun k => laws_eqSeriesS.f k l l) true := by
 unfold laws_eqSeriesS.f
 refine ev_pos rfl ?_
 refine up_ind l.length (fun i => Ev (fun k => laws_eqSeriesS.l0 k l l (i : Int)) true) ?_ ?_ 0 (by omega)
 ·refine ev_step (fun _ => laws_eqSeriesS.l0.eq_2 ..) ?_
  refine ev_neg (by omega) ?_
  exact ev_now _
 ·intro i h ih
  refine ev_step (fun _ => laws_eqSeriesS.l0.eq_2 ..) ?_
  repeat (first | (with_reducible refine ev_pos (by first | omega | rfl | decide) ?_) | (with_reducible refine ev_neg (by first | omega | decide) ?_))
  rw [(show rd_T56 l (i : Int) = l[i] from getD_lt h)]
  refine ev_bind (eqSeries l[i] (hs _ (List.getElem_mem h))) ?_
  refine ev_pos rfl ?_
  rw [w64n h (by omega)]
  exact ih
theorem szSeriesS (l : List (S65)) (c : Int) (h0 : 0 ≤ c) (h1 : c ≤ 1048576) (hl : l.length ≤ maxLen) (hw : ∀ x ∈ l, sw65 x) : ∃ r, Ev (fun k => laws_szSeriesS.f k l c) r ∧ r ≤ c ∧ (0 ≤ r → (l.length ≤ 1048576 ∧ ∀ y ∈ l, sm65 y)) := by
 simp only [maxLen] at hl
 unfold laws_szSeriesS.f
 rw [w64 (x := c - (l.length : Int)) (by omega) (by omega)]
 by_cases hn : c - (l.length : Int) < 0
 ·exact ⟨-1, ev_pos hn (ev_now _), by omega, fun h => absurd h (by decide)⟩
 ·have key := up_ind l.length (fun i => ∀ c : Int, 0 ≤ c → c ≤ 1048576 → ∃ r, Ev (fun k => laws_szSeriesS.l0 k l c (i : Int)) r ∧ r ≤ c ∧ (0 ≤ r → ∀ j (h : j < l.length), i ≤ j → sm65 l[j])) ?d ?s 0 (by omega) (c - (l.length : Int)) (by omega) (by omega)
  case d => exact fun c h0 h1 => ⟨c, ev_step (fun _ => laws_szSeriesS.l0.eq_2 ..) (ev_neg (by omega) (ev_now _)), Int.le_refl _, fun _ j h hj => by omega⟩
  case s =>
   intro i h ih c h0 h1
   obtain ⟨r1, e1, hr1, hs1⟩ := szSeries l[i] c h0 h1 (hw _ (List.getElem_mem h))
   by_cases hr : r1 < 0
   ·refine ⟨-1, ev_step (fun _ => laws_szSeriesS.l0.eq_2 ..) ?_, by omega, fun h => absurd h (by decide)⟩
    repeat (first | (with_reducible refine ev_pos (by first | omega | rfl | decide) ?_) | (with_reducible refine ev_neg (by first | omega | decide) ?_))
    rw [(show rd_T65 l (i : Int) = l[i] from getD_lt h)]
    exact ev_bind e1 (ev_pos hr (ev_now _))
   ·obtain ⟨r, e, hrc, hs⟩ := ih (r1) (by omega) (by omega)
    refine ⟨r, ev_step (fun _ => laws_szSeriesS.l0.eq_2 ..) ?_, by omega, fun h2 j hj hij => ?_⟩
    ·repeat (first | (with_reducible refine ev_pos (by first | omega | rfl | decide) ?_) | (with_reducible refine ev_neg (by first | omega | decide) ?_))
     rw [(show rd_T65 l (i : Int) = l[i] from getD_lt h)]
     refine ev_bind e1 (ev_neg hr ?_)
     rw [w64n h (by omega)]
     exact e
    ·by_cases ej : j = i
     ·subst ej
      exact hs1 (by omega)
     ·exact hs h2 j hj (by omega)
  obtain ⟨r, e, hrc, hs⟩ := key
  refine ⟨r, ev_neg hn e, by omega, fun h => ⟨by omega, fun y hy => ?_⟩⟩
  obtain ⟨j, hj, rfl⟩ := List.getElem_of_mem hy
  exact hs h j hj (by omega)
end Go.Proofs.YthkhflhmnjgbnaaGreat.U
namespace Go.Proofs.YthkhflhmnjgbnaaGreat.U
open Go.RowKit Go.Proofs.YthkhflhmnjgbnaaGreat.Pr Go.Proofs.YthkhflhmnjgbnaaGreatW.PrintWords Go.Proofs.YthkhflhmnjgbnaaGreatW.PrintLast Go.Proofs.YthkhflhmnjgbnaaGreatW.PrintMore
set_option linter.unusedVariables false
set_option linter.unusedSimpArgs false
theorem fitL_cv (l : List S104) (h : l.length ≤ 1048576 ∧ ∀ x ∈ l, sm104 x) : fitL (l.map cv104) := by
 refine ⟨by rw [List.length_map]; omega, fun x hx => ?_⟩
 obtain ⟨y, hy, rfl⟩ := List.mem_map.1 hx
 obtain ⟨h1, h2⟩ := h.2 y hy
 exact ⟨by show y.f0.size ≤ _; omega, by show y.f1.size ≤ _; omega⟩
end Go.Proofs.YthkhflhmnjgbnaaGreat.U
namespace Go.Proofs.YthkhflhmnjgbnaaGreat.U
open Go.RowKit Go.Proofs.YthkhflhmnjgbnaaGreat.Pr Go.Proofs.YthkhflhmnjgbnaaGreatW.PrintWords Go.Proofs.YthkhflhmnjgbnaaGreatW.PrintLast Go.Proofs.YthkhflhmnjgbnaaGreatW.PrintMore
set_option linter.unusedVariables false
set_option linter.unusedSimpArgs false
def namedS (l : List S79) : Bool := goodL l && ((ofL (⟨#[95, 110, 97, 109, 101]⟩ : ByteArray) l).toList != [])
def beforeS (p : Option (List S79)) (l : List S79) : Bool := match p with
 | none => true
 | some q => decide (cmpLL q l < 0)
/-- Series that rise from p on, each with a name of its own and with good samples. -/
def serL (p : Option (List S79)) : List S56 → Bool
 | [] => true
 | x :: xs => namedS x.f0 && decide (x.f1.length ≠ 0) && goodS x.f1 && beforeS p x.f0 && serL (some x.f0) xs
def goodSer (l : List S56) : Bool := decide (l.length ≤ 200) && serL none l
def fitS (l : List S56) : Prop := l.length ≤ 9223372036854775807 ∧ ∀ x ∈ l, fitL x.f0 ∧ x.f1.length ≤ 9223372036854775807
def ptSer (l : List S56) (i : Nat) : Option (List S79) := if i = 0 then none else some (rd_T56 l ((i - 1 : Nat) : Int)).f0
theorem ser_impl (l : List S56) (hf : fitS l) : Ev (fun k => impl_GoodSeries.l0 k l l (l.length : Int) 0) (serL none l) := by
 obtain ⟨hl, hw⟩ := hf
 have hrd : ∀ (i : Nat) (h : i < l.length), rd_T56 l (i : Int) = l[i] := fun i h => getD_lt h
 refine up_ind l.length (fun i => Ev (fun k => impl_GoodSeries.l0 k l l (l.length : Int) (i : Int)) (serL (ptSer l i) (l.drop i))) ?_ ?_ 0 (by omega)
 ·rw [List.drop_length]
  refine ev_step (fun _ => impl_GoodSeries.l0.eq_2 ..) (ev_neg (by omega) ?_)
  exact ev_now _
 ·intro i h ih
  have hp : ptSer l (i + 1) = some l[i].f0 := by unfold ptSer; rw [if_neg (by omega), Nat.add_sub_cancel, hrd i h]
  rw [hp] at ih
  have wi : wrap64 ((i : Int) + 1) = ((i + 1 : Nat) : Int) := w64n h hl
  obtain ⟨fl, fs⟩ := hw l[i] (List.getElem_mem h)
  refine ev_step (fun _ => impl_GoodSeries.l0.eq_2 ..) (ev_pos (by omega) (ev_pos (by omega) (ev_pos (by omega) ?_)))
  rw [hrd i h, List.drop_eq_getElem_cons h]
  simp only [serL, namedS]
  refine ev_bind (goodLabels_impl _ fl) (ev_ite (fun g => ?_) (fun g => ?_))
  ·rw [g, Bool.true_and]
   refine ev_bind (of_impl _ fl.1 _) (ev_ite (fun n => ?_) (fun n => ?_))
   ·rw [n]
    exact ev_now _
   ·rw [show ((ofL (⟨#[95, 110, 97, 109, 101]⟩ : ByteArray) l[i].f0).toList != []) = true from bne_iff_ne.2 n, Bool.true_and]
    refine ev_ite (fun z => ?_) (fun z => ?_)
    ·rw [decide_eq_false (show ¬ l[i].f1.length ≠ 0 from by omega)]
     exact ev_now _
    ·rw [decide_eq_true (show l[i].f1.length ≠ 0 from by omega), Bool.true_and]
     refine ev_bind (goodSamples_impl _ fs) (ev_ite (fun s => ?_) (fun s => ?_))
     ·rw [s, Bool.true_and]
      by_cases hi : i = 0
      ·subst hi
       rw [wi]
       exact ev_neg (by omega) ih
      ·have wm : wrap64 ((i : Int) - 1) = ((i - 1 : Nat) : Int) := by rw [w64 (by omega) (by omega)]; omega
       have hq : ptSer l i = some l[i - 1].f0 := by unfold ptSer; rw [if_neg hi, hrd (i - 1) (by omega)]
       rw [wm, hrd (i - 1) (by omega), hq, wi]
       refine ev_pos (by omega) (ev_pos (by omega) (ev_pos (by omega) (ev_bind (cmpLL_impl _ _ (hw l[i - 1] (List.getElem_mem (by omega))).1 fl) ?_)))
       simp only [beforeS]
       refine ev_ite (fun c => ?_) (fun c => ?_)
       ·rw [decide_eq_false (by omega), Bool.false_and]
        exact ev_now _
       ·rw [decide_eq_true (by omega), Bool.true_and]
        exact ih
     ·rw [Bool.eq_false_iff.2 s]
      exact ev_now _
  ·rw [Bool.eq_false_iff.2 g]
   exact ev_now _
theorem goodSeries_impl (l : List S56) (hf : fitS l) : Ev (fun k => impl_GoodSeries.f k l) (goodSer l) := by
 unfold impl_GoodSeries.f goodSer
 refine ev_ite (fun h => ?_) (fun h => ?_)
 ·rw [decide_eq_false (by omega)]
  exact ev_now _
 ·rw [decide_eq_true (by omega), Bool.true_and]
  exact ser_impl l hf
theorem named_spec (l : List S79) (hf : fitL l) : Ev (fun k => spec_l7Named.f k l) (namedS l) := by
 unfold spec_l7Named.f namedS
 refine ev_bind (goodLabels_spec _ hf) (ev_ite (fun g => ?_) (fun g => ?_))
 ·rw [g, Bool.true_and]
  exact ev_bind (of_spec _ hf.1 _) (ev_now _)
 ·rw [Bool.eq_false_iff.2 g]
  exact ev_now _
theorem ser_spec (l : List S56) (hf : fitS l) : Ev (fun k => spec_GoodSeries.l0 k l l (l.length : Int) 0) (serL none l) := by
 obtain ⟨hl, hw⟩ := hf
 have hrd : ∀ (i : Nat) (h : i < l.length), rd_T56 l (i : Int) = l[i] := fun i h => getD_lt h
 refine up_ind l.length (fun i => Ev (fun k => spec_GoodSeries.l0 k l l (l.length : Int) (i : Int)) (serL (ptSer l i) (l.drop i))) ?_ ?_ 0 (by omega)
 ·rw [List.drop_length]
  refine ev_step (fun _ => spec_GoodSeries.l0.eq_2 ..) (ev_neg (by omega) ?_)
  exact ev_now _
 ·intro i h ih
  have hp : ptSer l (i + 1) = some l[i].f0 := by unfold ptSer; rw [if_neg (by omega), Nat.add_sub_cancel, hrd i h]
  rw [hp] at ih
  have wi : wrap64 ((i : Int) + 1) = ((i + 1 : Nat) : Int) := w64n h hl
  obtain ⟨fl, fs⟩ := hw l[i] (List.getElem_mem h)
  refine ev_step (fun _ => spec_GoodSeries.l0.eq_2 ..) (ev_pos (by omega) (ev_pos (by omega) (ev_pos (by omega) ?_)))
  rw [hrd i h, List.drop_eq_getElem_cons h]
  simp only [serL]
  refine ev_bind (named_spec _ fl) (ev_ite (fun g => ?_) (fun g => ?_))
  ·rw [g, Bool.true_and]
   refine ev_bind (goodSamples_spec _ fs) (ev_ite (fun s => ?_) (fun s => ?_))
   ·rw [s, Bool.and_true]
    refine ev_ite (fun z => ?_) (fun z => ?_)
    ·rw [decide_eq_false (show ¬ l[i].f1.length ≠ 0 from by omega)]
     exact ev_now _
    ·rw [decide_eq_true (show l[i].f1.length ≠ 0 from by omega), Bool.true_and]
     by_cases hi : i = 0
     ·subst hi
      rw [wi]
      exact ev_neg (by omega) ih
     ·have wm : wrap64 ((i : Int) - 1) = ((i - 1 : Nat) : Int) := by rw [w64 (by omega) (by omega)]; omega
      have hq : ptSer l i = some l[i - 1].f0 := by unfold ptSer; rw [if_neg hi, hrd (i - 1) (by omega)]
      rw [wm, hrd (i - 1) (by omega), hq, wi]
      refine ev_pos (by omega) (ev_pos (by omega) (ev_pos (by omega) (ev_bind (cmpLL_spec _ _ (hw l[i - 1] (List.getElem_mem (by omega))).1 fl) ?_)))
      simp only [beforeS]
      refine ev_ite (fun c => ?_) (fun c => ?_)
      ·rw [decide_eq_false (by omega), Bool.false_and]
       exact ev_now _
      ·rw [decide_eq_true (by omega), Bool.true_and]
       exact ih
   ·rw [Bool.eq_false_iff.2 s, Bool.and_false]
    exact ev_now _
  ·rw [Bool.eq_false_iff.2 g]
   exact ev_now _
theorem goodSeries_spec (l : List S56) (hf : fitS l) : Ev (fun k => spec_GoodSeries.f k l) (goodSer l) := by
 unfold spec_GoodSeries.f goodSer
 refine ev_ite (fun h => ?_) (fun h => ?_)
 ·rw [decide_eq_false (by omega)]
  exact ev_now _
 ·rw [decide_eq_true (by omega), Bool.true_and]
  exact ser_spec l hf
theorem fitS_cv (l : List S65) (h : l.length ≤ 1048576 ∧ ∀ x ∈ l, sm65 x) : fitS (l.map cv65) := by
 refine ⟨by rw [List.length_map]; omega, fun x hx => ?_⟩
 obtain ⟨y, hy, rfl⟩ := List.mem_map.1 hx
 obtain ⟨h1, h2⟩ := h.2 y hy
 exact ⟨fitL_cv _ h1, by show (y.f1.map _).length ≤ _; rw [List.length_map]; omega⟩
theorem seS_cv (l : List S65) (h : l.length ≤ 1048576 ∧ ∀ x ∈ l, sm65 x) : ∀ x ∈ l.map cv65, se56 x := by
 intro x hx
 obtain ⟨y, hy, rfl⟩ := List.mem_map.1 hx
 obtain ⟨h1, h2⟩ := h.2 y hy
 exact ⟨by show (y.f0.map _).length ≤ _; rw [List.length_map]; exact h1.1, by show (y.f1.map _).length ≤ _; rw [List.length_map]; exact h2⟩
end Go.Proofs.YthkhflhmnjgbnaaGreat.U
namespace Go.Proofs.YthkhflhmnjgbnaaGreat.U
open Go.RowKit Go.Proofs.YthkhflhmnjgbnaaGreat.Pr Go.Proofs.YthkhflhmnjgbnaaGreatW.PrintWords Go.Proofs.YthkhflhmnjgbnaaGreatW.PrintLast Go.Proofs.YthkhflhmnjgbnaaGreatW.PrintMore
set_option linter.unusedVariables false
set_option linter.unusedSimpArgs false
theorem serL_ne : ∀ (l : List S56) p, serL p l = true → ∀ x ∈ l, x.f1.length ≠ 0 := by
 intro l
 induction l with
 | nil => intro _ _ x hx; exact absurd hx List.not_mem_nil
 | cons y ys ih =>
  intro p h x hx
  simp only [serL, Bool.and_eq_true] at h
  rcases List.mem_cons.1 hx with e | e
  ·rw [e]; exact of_decide_eq_true h.1.1.1.2
  ·exact ih _ h.2 x e
def lastOk (m : Int) : List S56 → Bool
 | [] => true
 | x :: xs => if (rd_T69 x.f1 ((x.f1.length - 1 : Nat) : Int)).f0 > m then false else lastOk m xs
theorem ev_ite3 {α : Type} {c : Prop} [d1 : Decidable c] [d2 : Decidable c] {f g : Nat → Option α} {a b : α} (h1 : c → Ev f a) (h2 : ¬ c → Ev g b) : Ev (fun k => if c then f k else g k) (if c then a else b) := by
 by_cases h : c
 ·rw [if_pos h]; exact ev_pos h (h1 h)
 ·rw [if_neg h]; exact ev_neg h (h2 h)
theorem last_impl (l : List S56) (hf : fitS l) (hne : ∀ x ∈ l, x.f1.length ≠ 0) (a b m : Int) : Ev (fun k => impl_GoodHead.l0 k l (l.length : Int) 0 a b m l) (lastOk m l) := by
 obtain ⟨hl, hw⟩ := hf
 have hrd : ∀ (i : Nat) (h : i < l.length), rd_T56 l (i : Int) = l[i] := fun i h => getD_lt h
 refine up_ind l.length (fun i => Ev (fun k => impl_GoodHead.l0 k l (l.length : Int) (i : Int) a b m l) (lastOk m (l.drop i))) ?_ ?_ 0 (by omega)
 ·rw [List.drop_length]
  exact ev_step (fun _ => impl_GoodHead.l0.eq_2 ..) (ev_neg (by omega) (ev_now _))
 ·intro i h ih
  have wi : wrap64 ((i : Int) + 1) = ((i + 1 : Nat) : Int) := w64n h hl
  have hs := (hw l[i] (List.getElem_mem h)).2
  have hz := hne l[i] (List.getElem_mem h)
  have wm : wrap64 ((l[i].f1.length : Int) - 1) = ((l[i].f1.length - 1 : Nat) : Int) := by rw [w64 (by omega) (by omega)]; omega
  refine ev_step (fun _ => impl_GoodHead.l0.eq_2 ..) (ev_pos (by omega) (ev_pos (by omega) (ev_pos (by omega) ?_)))
  rw [hrd i h, List.drop_eq_getElem_cons h, wm, wi]
  simp only [lastOk]
  exact ev_pos (by omega) (ev_pos (by omega) (ev_ite3 (fun _ => ev_now _) (fun _ => ih)))
theorem last_spec (l : List S56) (hf : fitS l) (hne : ∀ x ∈ l, x.f1.length ≠ 0) (a b m : Int) : Ev (fun k => spec_GoodHead.l0 k l (l.length : Int) 0 a b m l) (lastOk m l) := by
 obtain ⟨hl, hw⟩ := hf
 have hrd : ∀ (i : Nat) (h : i < l.length), rd_T56 l (i : Int) = l[i] := fun i h => getD_lt h
 refine up_ind l.length (fun i => Ev (fun k => spec_GoodHead.l0 k l (l.length : Int) (i : Int) a b m l) (lastOk m (l.drop i))) ?_ ?_ 0 (by omega)
 ·rw [List.drop_length]
  exact ev_step (fun _ => spec_GoodHead.l0.eq_2 ..) (ev_neg (by omega) (ev_now _))
 ·intro i h ih
  have wi : wrap64 ((i : Int) + 1) = ((i + 1 : Nat) : Int) := w64n h hl
  have hs := (hw l[i] (List.getElem_mem h)).2
  have hz := hne l[i] (List.getElem_mem h)
  have wm : wrap64 ((l[i].f1.length : Int) - 1) = ((l[i].f1.length - 1 : Nat) : Int) := by rw [w64 (by omega) (by omega)]; omega
  refine ev_step (fun _ => spec_GoodHead.l0.eq_2 ..) (ev_pos (by omega) (ev_pos (by omega) (ev_pos (by omega) ?_)))
  rw [hrd i h, List.drop_eq_getElem_cons h, wm, wi]
  simp only [lastOk]
  exact ev_pos (by omega) (ev_pos (by omega) (ev_ite3 (fun _ => ev_now _) (fun _ => ih)))
theorem gw_no {a b : Int} (h : ¬ ((0 ≤ a ∧ a ≤ 1000000000000) ∧ 0 ≤ b ∧ b ≤ 200)) : impl_goodWindow.f a b = some false := by
 unfold impl_goodWindow.f
 by_cases ht : 0 ≤ a ∧ a ≤ 1000000000000
 ·rw [(isTime_yes ht).1]
  by_cases hb : b ≥ 0
  ·simp only [Option.bind_some, if_true, if_pos hb]
   rw [decide_eq_false (by omega)]
  ·simp only [Option.bind_some, if_true, if_neg hb]
 ·rw [(isTime_no ht).1]
  rfl
theorem gw_yes {a b : Int} (ht : 0 ≤ a ∧ a ≤ 1000000000000) (hb : 0 ≤ b ∧ b ≤ 200) : impl_goodWindow.f a b = some true := by
 unfold impl_goodWindow.f
 rw [(isTime_yes ht).1]
 simp only [Option.bind_some, if_true, if_pos hb.1]
 rw [decide_eq_true hb.2]
theorem head_two (a b c : Int) (l : List S56) (hf : fitS l) : ∃ r, Ev (fun k => impl_GoodHead.f k a b c l) r ∧ Ev (fun k => spec_GoodHead.f k a b c l) r := by
 have no1 : Ev (fun k => impl_GoodHead.j0 k true a b c l) false := ev_step (fun _ => impl_GoodHead.j0.eq_2 ..) (ev_pos rfl (ev_now _))
 have no2 : Ev (fun k => spec_GoodHead.j0 k true a b c l) false := ev_step (fun _ => spec_GoodHead.j0.eq_2 ..) (ev_pos rfl (ev_now _))
 unfold impl_GoodHead.f spec_GoodHead.f
 by_cases ht : 0 ≤ a ∧ a ≤ 1000000000000
 ·by_cases hb : 0 ≤ b ∧ b ≤ 200
  ·by_cases hs : goodSer l = true
   ·have hne := serL_ne l none (by unfold goodSer at hs; exact (Bool.and_eq_true_iff.1 hs).2)
    have y1 : Ev (fun k => impl_GoodHead.j0 k false a b c l) (lastOk c l) := ev_step (fun _ => impl_GoodHead.j0.eq_2 ..) (ev_neg (by decide) (last_impl l hf hne a b c))
    have y2 : Ev (fun k => spec_GoodHead.j0 k false a b c l) (lastOk c l) := ev_step (fun _ => spec_GoodHead.j0.eq_2 ..) (ev_neg (by decide) (last_spec l hf hne a b c))
    by_cases hn : (l.length : Int) > b
    ·exact ⟨false, ev_bind (ev_eq (gw_yes ht hb)) (ev_pos rfl (ev_bind (goodSeries_impl l hf) (ev_pos hs (ev_pos hn no1)))), ev_bind (ev_eq (isTime_yes ht).2) (ev_pos rfl (ev_neg (by omega) (ev_neg (by omega) (ev_bind (goodSeries_spec l hf) (ev_pos hs (ev_pos hn no2))))))⟩
    ·by_cases h1 : c = -1
     ·exact ⟨lastOk c l, ev_bind (ev_eq (gw_yes ht hb)) (ev_pos rfl (ev_bind (goodSeries_impl l hf) (ev_pos hs (ev_neg hn (ev_pos h1 y1))))), ev_bind (ev_eq (isTime_yes ht).2) (ev_pos rfl (ev_neg (by omega) (ev_neg (by omega) (ev_bind (goodSeries_spec l hf) (ev_pos hs (ev_neg hn (ev_neg (by omega) (by rw [decide_eq_false (show ¬ c > 1000000000000 from by omega)]; exact y2))))))))⟩
     ·by_cases h2 : 0 ≤ c ∧ c ≤ 1000000000000
      ·exact ⟨lastOk c l, ev_bind (ev_eq (gw_yes ht hb)) (ev_pos rfl (ev_bind (goodSeries_impl l hf) (ev_pos hs (ev_neg hn (ev_neg h1 (ev_bind (ev_eq (isTime_yes h2).1) y1)))))), ev_bind (ev_eq (isTime_yes ht).2) (ev_pos rfl (ev_neg (by omega) (ev_neg (by omega) (ev_bind (goodSeries_spec l hf) (ev_pos hs (ev_neg hn (ev_neg (by omega) (by rw [decide_eq_false (show ¬ c > 1000000000000 from by omega)]; exact y2))))))))⟩
      ·refine ⟨false, ev_bind (ev_eq (gw_yes ht hb)) (ev_pos rfl (ev_bind (goodSeries_impl l hf) (ev_pos hs (ev_neg hn (ev_neg h1 (ev_bind (ev_eq (isTime_no h2).1) no1)))))), ev_bind (ev_eq (isTime_yes ht).2) (ev_pos rfl (ev_neg (by omega) (ev_neg (by omega) (ev_bind (goodSeries_spec l hf) (ev_pos hs (ev_neg hn (ev_ite (fun _ => no2) (fun h3 => ?_))))))))⟩
       rw [decide_eq_true (show c > 1000000000000 from by omega)]
       exact no2
   ·exact ⟨false, ev_bind (ev_eq (gw_yes ht hb)) (ev_pos rfl (ev_bind (goodSeries_impl l hf) (ev_neg hs no1))), ev_bind (ev_eq (isTime_yes ht).2) (ev_pos rfl (ev_neg (by omega) (ev_neg (by omega) (ev_bind (goodSeries_spec l hf) (ev_neg hs no2)))))⟩
  ·refine ⟨false, ev_bind (ev_eq (gw_no (fun h => hb h.2))) (ev_neg (by decide) no1), ev_bind (ev_eq (isTime_yes ht).2) (ev_pos rfl (ev_ite (fun _ => no2) (fun h3 => ev_pos (by omega) no2)))⟩
 ·exact ⟨false, ev_bind (ev_eq (gw_no (fun h => ht h.1))) (ev_neg (by decide) no1), ev_bind (ev_eq (isTime_no ht).2) (ev_neg (by decide) no2)⟩
end Go.Proofs.YthkhflhmnjgbnaaGreat.U
namespace Go.Proofs.YthkhflhmnjgbnaaGreat.U
open Go.RowKit Go.Proofs.YthkhflhmnjgbnaaGreat.Pr Go.Proofs.YthkhflhmnjgbnaaGreatW.PrintWords Go.Proofs.YthkhflhmnjgbnaaGreatW.PrintLast Go.Proofs.YthkhflhmnjgbnaaGreatW.PrintMore
set_option linter.unusedVariables false
set_option linter.unusedSimpArgs false
theorem filtS_at (P : S69 → Option Bool) (p : S69 → Bool) (l : List S69) (hl : l.length ≤ 1048576) (h : ∀ x ∈ l, P x = some (p x)) : ∀ (d k i : Nat) (acc : List S69), i + d = l.length → d < k → acc.length ≤ i → impl_Sample.l0 P l k acc (i : Int) = some (acc ++ (l.drop i).filter p) := by
 have hrd : ∀ (i : Nat) (h : i < l.length), rd_T69 l (i : Int) = l[i] := fun i h => getD_lt h
 intro d
 induction d with
 | zero =>
  intro k i acc h1 h2 h3
  obtain ⟨k, rfl⟩ : ∃ m, k = m + 1 := ⟨k - 1, by omega⟩
  simp only [impl_Sample.l0]
  rw [if_neg (by omega), List.drop_eq_nil_of_le (by omega), List.filter_nil, List.append_nil]
 | succ d ih =>
  intro k i acc h1 h2 h3
  obtain ⟨k, rfl⟩ : ∃ m, k = m + 1 := ⟨k - 1, by omega⟩
  have hi : i < l.length := by omega
  have hp : P (⟨l[i].f0, l[i].f1⟩ : S69) = some (p l[i]) := h l[i] (List.getElem_mem hi)
  simp only [impl_Sample.l0]
  rw [if_pos (by omega), if_pos (by omega), hrd i hi, hp, Option.bind_some, List.drop_eq_getElem_cons hi, w64n hi (by omega)]
  by_cases hq : p l[i] = true
  ·rw [if_pos hq, if_pos (by omega), List.filter_cons_of_pos hq, ih k (i + 1) _ (by omega) (by omega) (by rw [List.length_append, List.length_singleton]; omega), List.append_assoc]
   rfl
  ·rw [if_neg hq, List.filter_cons_of_neg hq]
   exact ih k (i + 1) acc (by omega) (by omega) (by omega)
theorem evS_all {α : Type} (P : Nat → α → Option Bool) (p : α → Bool) : ∀ l : List α, (∀ x ∈ l, Ev (fun k => P k x) (p x)) → ∃ K, ∀ k, K ≤ k → ∀ x ∈ l, P k x = some (p x) := by
 intro l
 induction l with
 | nil => intro _; exact ⟨0, fun _ _ _ h => by cases h⟩
 | cons y l ih =>
  intro h
  obtain ⟨K, h1⟩ := ih (fun x hx => h x (List.mem_cons_of_mem _ hx))
  obtain ⟨K', h2⟩ := h y (List.mem_cons_self ..)
  refine ⟨max K K', fun k hk x hx => ?_⟩
  rcases List.mem_cons.1 hx with rfl | hx
  ·exact h2 k (by omega)
  ·exact h1 k (by omega) x hx
theorem filtS (P : Nat → S69 → Option Bool) (p : S69 → Bool) (l : List S69) (hl : l.length ≤ 1048576) (h : ∀ x ∈ l, Ev (fun k => P k x) (p x)) : Ev (fun k => impl_Sample.f k (P k) l) (l.filter p) := by
 obtain ⟨K, hK⟩ := evS_all P p l h
 refine ⟨max K (l.length + 1), fun k hk => ?_⟩
 exact filtS_at (P k) p l hl (hK k (by omega)) l.length k 0 [] (by omega) (by omega) (by simp)
theorem cut_spec (l : List S69) (hl : l.length ≤ 1048576) (a b : Int) : Ev (fun k => spec_l6Cut.f k l a b) (l.filter fun x => decide (x.f0 ≥ a) && decide (x.f0 ≤ b)) := by
 unfold spec_l6Cut.f
 have hrd : ∀ (i : Nat) (h : i < l.length), rd_T69 l (i : Int) = l[i] := fun i h => getD_lt h
 have key := up_ind l.length (fun i => ∀ acc : List S69, acc.length ≤ i → Ev (fun k => spec_l6Cut.l0 k a b acc l (l.length : Int) (i : Int)) (acc ++ (l.drop i).filter fun x => decide (x.f0 ≥ a) && decide (x.f0 ≤ b))) ?_ ?_ 0 (by omega) [] (by simp)
 ·exact key
 ·intro acc ha
  rw [List.drop_length, List.filter_nil, List.append_nil]
  exact ev_step (fun _ => spec_l6Cut.l0.eq_2 ..) (ev_neg (by omega) (ev_now _))
 ·intro i h ih acc ha
  refine ev_step (fun _ => spec_l6Cut.l0.eq_2 ..) (ev_pos (by omega) (ev_pos (by omega) (ev_pos (by omega) ?_)))
  rw [hrd i h, List.drop_eq_getElem_cons h, w64n h (by omega)]
  refine ev_ite (fun h1 => ev_ite (fun h2 => ?_) (fun h2 => ?_)) (fun h1 => ?_)
  ·refine ev_pos (by omega) ?_
   rw [List.filter_cons_of_pos (p := fun x : S69 => decide (x.f0 ≥ a) && decide (x.f0 ≤ b)) (by rw [decide_eq_true h1, decide_eq_true h2]; rfl)]
   have := ih (acc ++ [l[i]]) (by rw [List.length_append, List.length_singleton]; omega)
   rw [List.append_assoc] at this
   exact this
  ·rw [List.filter_cons_of_neg (p := fun x : S69 => decide (x.f0 ≥ a) && decide (x.f0 ≤ b)) (by rw [decide_eq_false h2]; simp)]
   exact ih acc (by omega)
  ·rw [List.filter_cons_of_neg (p := fun x : S69 => decide (x.f0 ≥ a) && decide (x.f0 ≤ b)) (by rw [decide_eq_false h1]; simp)]
   exact ih acc (by omega)
theorem cut_impl (l : List S69) (hl : l.length ≤ 1048576) (a b : Int) : Ev (fun k => impl_cut.f k l a b) (l.filter fun x => decide (x.f0 ≥ a) && decide (x.f0 ≤ b)) := by
 unfold impl_cut.f
 exact filtS _ _ l hl (fun x _ => ev_now _)
end Go.Proofs.YthkhflhmnjgbnaaGreat.U
namespace Go.Proofs.YthkhflhmnjgbnaaGreat.U
open Go.RowKit Go.Proofs.YthkhflhmnjgbnaaGreat.Pr Go.Proofs.YthkhflhmnjgbnaaGreatW.PrintWords Go.Proofs.YthkhflhmnjgbnaaGreatW.PrintLast Go.Proofs.YthkhflhmnjgbnaaGreatW.PrintMore
set_option linter.unusedVariables false
set_option linter.unusedSimpArgs false
/-- What both programs' GoodPattern answer. -/
def patB (s : ByteArray) : Bool := prL 100 (Y s) && (altA s 0 [] []).2
/-- A pattern's alternatives, as codes. -/
def patA (s : ByteArray) : List (List Int) := if prL 100 (Y s) = true then (altA s 0 [] []).1 else []
theorem prL_size {s : ByteArray} {n : Nat} (h : prL n (Y s) = true) : s.size ≤ n := by
 unfold prL at h
 rw [Y_len, Bool.and_eq_true, decide_eq_true_eq] at h
 exact h.1
theorem alt_spec (s : ByteArray) (hs : s.size ≤ 9223372036854775807) : Ev (fun k => spec_l2Alternatives.f k s) (patA s, patB s) := by
 unfold spec_l2Alternatives.f patB patA prL
 rw [Y_len]
 refine ev_ite (fun h => ?_) (fun h => ?_)
 ·rw [decide_eq_false (by omega), Bool.false_and, Bool.false_and, if_neg (by decide)]
  exact ev_now _
 ·rw [decide_eq_true (by omega), Bool.true_and]
  refine ev_bind (printed_spec s hs) (ev_ite (fun h1 => ?_) (fun h1 => ?_))
  ·rw [h1, Bool.true_and, if_pos rfl]
   exact ev_now _
  ·rw [Bool.eq_false_iff.2 h1, Bool.false_and, if_neg (by decide)]
   exact ev_now _
theorem alt_impl (s : ByteArray) (hs : s.size ≤ 9223372036854775807) : Ev (fun k => impl_alternatives.f k s) ((patA s).map (List.map altP), patB s) := by
 unfold impl_alternatives.f patB patA
 refine ev_bind (printed_impl s hs 100) (ev_ite (fun h1 => ?_) (fun h1 => ?_))
 ·have h2 := prL_size h1
  rw [h1, Bool.true_and, if_pos rfl]
  exact ev_pos (by omega) (ev_now _)
 ·rw [Bool.eq_false_iff.2 h1, Bool.false_and, if_neg (by decide)]
  exact ev_now _
theorem pat_spec (s : ByteArray) (hs : s.size ≤ 9223372036854775807) : Ev (fun k => spec_GoodPattern.f k s) (patB s) := by
 unfold spec_GoodPattern.f
 exact ev_bind (alt_spec s hs) (ev_now _)
theorem pat_impl (s : ByteArray) (hs : s.size ≤ 9223372036854775807) : Ev (fun k => impl_GoodPattern.f k s) (patB s) := by
 unfold impl_GoodPattern.f
 exact ev_bind (alt_impl s hs) (ev_now _)
end Go.Proofs.YthkhflhmnjgbnaaGreat.U
namespace Go.Proofs.YthkhflhmnjgbnaaGreat.U
open Go.RowKit Go.Proofs.YthkhflhmnjgbnaaGreat.Pr Go.Proofs.YthkhflhmnjgbnaaGreatW.PrintWords Go.Proofs.YthkhflhmnjgbnaaGreatW.PrintLast Go.Proofs.YthkhflhmnjgbnaaGreatW.PrintMore
set_option linter.unusedVariables false
set_option linter.unusedSimpArgs false
theorem any_all_Matcher {α : Type} (P : Nat → α → Option Bool) (p : α → Bool) : ∀ l : List α, (∀ x ∈ l, Ev (fun k => P k x) (p x)) → ∃ K, ∀ k, K ≤ k → ∀ x ∈ l, P k x = some (p x) := by
 intro l
 induction l with
 | nil => intro _; exact ⟨0, fun _ _ _ h => by cases h⟩
 | cons y l ih =>
  intro h
  obtain ⟨K, h1⟩ := ih (fun x hx => h x (List.mem_cons_of_mem _ hx))
  obtain ⟨K', h2⟩ := h y (List.mem_cons_self ..)
  refine ⟨max K K', fun k hk x hx => ?_⟩
  rcases List.mem_cons.1 hx with rfl | hx
  ·exact h2 k (by omega)
  ·exact h1 k (by omega) x hx
theorem any_at_Matcher (P : S50 → Option Bool) (p : S50 → Bool) (l : List S50) (hl : l.length ≤ 9223372036854775807) (h : ∀ x ∈ l, P x = some (p x)) : ∀ (d k i : Nat), i + d = l.length → d < k → ∃ r, impl_Matcher_71.l0 P l k (i : Int) = some r ∧ decide (0 ≤ r) = (l.drop i).any p := by
 have hrd : ∀ (i : Nat) (h : i < l.length), rd_T50 l (i : Int) = l[i] := fun i h => getD_lt h
 intro d
 induction d with
 | zero =>
  intro k i h1 h2
  obtain ⟨k, rfl⟩ : ∃ m, k = m + 1 := ⟨k - 1, by omega⟩
  simp only [impl_Matcher_71.l0]
  rw [if_neg (by omega), List.drop_eq_nil_of_le (by omega), List.any_nil]
  exact ⟨-1, rfl, rfl⟩
 | succ d ih =>
  intro k i h1 h2
  obtain ⟨k, rfl⟩ : ∃ m, k = m + 1 := ⟨k - 1, by omega⟩
  have hi : i < l.length := by omega
  have hp : P (⟨l[i].f0, l[i].f1, l[i].f2⟩ : S50) = some (p l[i]) := h l[i] (List.getElem_mem hi)
  simp only [impl_Matcher_71.l0]
  rw [if_pos (by omega), if_pos (by omega), hrd i hi, hp, Option.bind_some, List.drop_eq_getElem_cons hi, List.any_cons, w64n hi (by omega)]
  by_cases hq : p l[i] = true
  ·rw [if_pos hq, hq, Bool.true_or]
   exact ⟨i, rfl, decide_eq_true (by omega)⟩
  ·rw [if_neg hq, Bool.eq_false_iff.2 hq, Bool.false_or]
   exact ih k (i + 1) (by omega) (by omega)
theorem any_Matcher (P : Nat → S50 → Option Bool) (p : S50 → Bool) (l : List S50) (hl : l.length ≤ 9223372036854775807) (h : ∀ x ∈ l, Ev (fun k => P k x) (p x)) : Ev (fun k => impl_Matcher_47.f k (P k) l) (l.any p) := by
 obtain ⟨K, hK⟩ := any_all_Matcher P p l h
 refine ⟨max K (l.length + 1), fun k hk => ?_⟩
 obtain ⟨r, h1, h2⟩ := any_at_Matcher (P k) p l hl (hK k (by omega)) l.length k 0 (by omega) (by omega)
 have h3 : impl_Matcher_71.f k (P k) l = some r := h1
 show ((impl_Matcher_71.f k (P k) l).bind fun j => some (decide (0 ≤ j))) = some (l.any p)
 rw [h3, Option.bind_some, h2]
 rfl
end Go.Proofs.YthkhflhmnjgbnaaGreat.U
namespace Go.Proofs.YthkhflhmnjgbnaaGreat.U
open Go.RowKit Go.Proofs.YthkhflhmnjgbnaaGreat.Pr Go.Proofs.YthkhflhmnjgbnaaGreatW.PrintWords Go.Proofs.YthkhflhmnjgbnaaGreatW.PrintLast Go.Proofs.YthkhflhmnjgbnaaGreatW.PrintMore
set_option linter.unusedVariables false
set_option linter.unusedSimpArgs false
def sm45 (x : S45) : Prop := x.f0.size ≤ 1048576 ∧ x.f2.size ≤ 1048576
def cv45 (x : S45) : S50 := ⟨x.f0, x.f1, x.f2⟩
theorem toMatcher (x : S45) (hx : sm45 x) : Ev (fun _ => laws_toMatcher.f x.f0 x.f1 x.f2) (x.f0, x.f1, x.f2) := by
 obtain ⟨h0, h2⟩ := hx
 unfold laws_toMatcher.f
 exact ev_now _
theorem eqMatcher (x : S50) : Ev (fun _ => laws_eqMatcher.f x.f0 x.f1 x.f2 x.f0 x.f1 x.f2) true := ev_eq (by simp [laws_eqMatcher.f])
def sw45 (x : S45) : Prop := (x.f0.size ≤ maxLen) ∧ (x.f2.size ≤ maxLen)
theorem szMatcher (x : S45) (c : Int) (h0 : 0 ≤ c) (h1 : c ≤ 1048576) (hw : sw45 x) : ∃ r, Ev (fun _ => laws_szMatcher.f x.f0 x.f1 x.f2 c) r ∧ r ≤ c ∧ (0 ≤ r → sm45 x) := by
 obtain ⟨w0, w2⟩ := hw
 unfold laws_szMatcher.f
 simp only [maxLen] at w0
 rw [w64 (x := c - (x.f0.size : Int)) (by omega) (by omega)]
 by_cases n0 : c - (x.f0.size : Int) < 0
 ·exact ⟨-1, ev_pos n0 (ev_now _), by omega, fun h => absurd h (by decide)⟩
 ·skip
  simp only [maxLen] at w2
  rw [w64 (x := (c - (x.f0.size : Int)) - (x.f2.size : Int)) (by omega) (by omega)]
  by_cases n2 : (c - (x.f0.size : Int)) - (x.f2.size : Int) < 0
  ·exact ⟨-1, ev_neg n0 (ev_pos n2 (ev_now _)), by omega, fun h => absurd h (by decide)⟩
  ·skip
   exact ⟨_, ev_neg n0 (ev_neg n2 (ev_now _)), by omega, fun _ => ⟨by omega, by omega⟩⟩
end Go.Proofs.YthkhflhmnjgbnaaGreat.U
namespace Go.Proofs.YthkhflhmnjgbnaaGreat.U
open Go.RowKit Go.Proofs.YthkhflhmnjgbnaaGreat.Pr Go.Proofs.YthkhflhmnjgbnaaGreatW.PrintWords Go.Proofs.YthkhflhmnjgbnaaGreatW.PrintLast Go.Proofs.YthkhflhmnjgbnaaGreatW.PrintMore
set_option linter.unusedVariables false
set_option linter.unusedSimpArgs false
theorem toMatcherS (l : List (S45)) (hl : (l.length ≤ 1048576 ∧ ∀ y ∈ l, sm45 y)) : Ev (fun k => laws_toMatcherS.f k l) (l.map cv45) := by
 obtain ⟨hl, hs⟩ := hl
 unfold laws_toMatcherS.f
 repeat (first | (with_reducible refine ev_pos (by first | omega | rfl | decide) ?_) | (with_reducible refine ev_neg (by first | omega | decide) ?_))
 have key := ev_copy (F := fun k y i => laws_toMatcherS.l0 k l y i) cv45 l (List.replicate ((l.length : Int) : Int).toNat z50) (by simp) ?step ?done
 case step =>
  intro i h y r hy hr
  refine ev_step (fun _ => laws_toMatcherS.l0.eq_2 ..) ?_
  repeat (first | (with_reducible refine ev_pos (by first | omega | rfl | decide) ?_) | (with_reducible refine ev_neg (by first | omega | decide) ?_))
  rw [(show rd_T45 l (i : Int) = l[i] from getD_lt h)]
  refine ev_bind (toMatcher l[i] (hs _ (List.getElem_mem h))) ?_
  repeat (first | (with_reducible refine ev_pos (by first | omega | rfl | decide) ?_) | (with_reducible refine ev_neg (by first | omega | decide) ?_))
  rw [w64n h (by omega), Int.toNat_natCast]
  exact hr
 case done =>
  intro y hy
  refine ev_step (fun _ => laws_toMatcherS.l0.eq_2 ..) ?_
  repeat (first | (with_reducible refine ev_pos (by first | omega | rfl | decide) ?_) | (with_reducible refine ev_neg (by first | omega | decide) ?_))
  exact ev_now _
 exact key
theorem eqMatcherS (l : List (S50)) (hl : l.length ≤ 1048576) : Ev (fun k => laws_eqMatcherS.f k l l) true := by
 unfold laws_eqMatcherS.f
 refine ev_pos rfl ?_
 refine up_ind l.length (fun i => Ev (fun k => laws_eqMatcherS.l0 k l l (i : Int)) true) ?_ ?_ 0 (by omega)
 ·refine ev_step (fun _ => laws_eqMatcherS.l0.eq_2 ..) ?_
  refine ev_neg (by omega) ?_
  exact ev_now _
 ·intro i h ih
  refine ev_step (fun _ => laws_eqMatcherS.l0.eq_2 ..) ?_
  repeat (first | (with_reducible refine ev_pos (by first | omega | rfl | decide) ?_) | (with_reducible refine ev_neg (by first | omega | decide) ?_))
  refine ev_bind (eqMatcher _) ?_
  refine ev_pos rfl ?_
  rw [w64n h (by omega)]
  exact ih
theorem szMatcherS (l : List (S45)) (c : Int) (h0 : 0 ≤ c) (h1 : c ≤ 1048576) (hl : l.length ≤ maxLen) (hw : ∀ x ∈ l, sw45 x) : ∃ r, Ev (fun k => laws_szMatcherS.f k l c) r ∧ r ≤ c ∧ (0 ≤ r → (l.length ≤ 1048576 ∧ ∀ y ∈ l, sm45 y)) := by
 simp only [maxLen] at hl
 unfold laws_szMatcherS.f
 rw [w64 (x := c - (l.length : Int)) (by omega) (by omega)]
 by_cases hn : c - (l.length : Int) < 0
 ·exact ⟨-1, ev_pos hn (ev_now _), by omega, fun h => absurd h (by decide)⟩
 ·have key := up_ind l.length (fun i => ∀ c : Int, 0 ≤ c → c ≤ 1048576 → ∃ r, Ev (fun k => laws_szMatcherS.l0 k l c (i : Int)) r ∧ r ≤ c ∧ (0 ≤ r → ∀ j (h : j < l.length), i ≤ j → sm45 l[j])) ?d ?s 0 (by omega) (c - (l.length : Int)) (by omega) (by omega)
  case d => exact fun c h0 h1 => ⟨c, ev_step (fun _ => laws_szMatcherS.l0.eq_2 ..) (ev_neg (by omega) (ev_now _)), Int.le_refl _, fun _ j h hj => by omega⟩
  case s =>
   intro i h ih c h0 h1
   obtain ⟨r1, e1, hr1, hs1⟩ := szMatcher l[i] c h0 h1 (hw _ (List.getElem_mem h))
   by_cases hr : r1 < 0
   ·refine ⟨-1, ev_step (fun _ => laws_szMatcherS.l0.eq_2 ..) ?_, by omega, fun h => absurd h (by decide)⟩
    repeat (first | (with_reducible refine ev_pos (by first | omega | rfl | decide) ?_) | (with_reducible refine ev_neg (by first | omega | decide) ?_))
    rw [(show rd_T45 l (i : Int) = l[i] from getD_lt h)]
    exact ev_bind e1 (ev_pos hr (ev_now _))
   ·obtain ⟨r, e, hrc, hs⟩ := ih (r1) (by omega) (by omega)
    refine ⟨r, ev_step (fun _ => laws_szMatcherS.l0.eq_2 ..) ?_, by omega, fun h2 j hj hij => ?_⟩
    ·repeat (first | (with_reducible refine ev_pos (by first | omega | rfl | decide) ?_) | (with_reducible refine ev_neg (by first | omega | decide) ?_))
     rw [(show rd_T45 l (i : Int) = l[i] from getD_lt h)]
     refine ev_bind e1 (ev_neg hr ?_)
     rw [w64n h (by omega)]
     exact e
    ·by_cases ej : j = i
     ·subst ej
      exact hs1 (by omega)
     ·exact hs h2 j hj (by omega)
  obtain ⟨r, e, hrc, hs⟩ := key
  refine ⟨r, ev_neg hn e, by omega, fun h => ⟨by omega, fun y hy => ?_⟩⟩
  obtain ⟨j, hj, rfl⟩ := List.getElem_of_mem hy
  exact hs h j hj (by omega)
end Go.Proofs.YthkhflhmnjgbnaaGreat.U
namespace Go.Proofs.YthkhflhmnjgbnaaGreat.U
open Go.RowKit Go.Proofs.YthkhflhmnjgbnaaGreat.Pr Go.Proofs.YthkhflhmnjgbnaaGreatW.PrintWords Go.Proofs.YthkhflhmnjgbnaaGreatW.PrintLast Go.Proofs.YthkhflhmnjgbnaaGreatW.PrintMore
set_option linter.unusedVariables false
set_option linter.unusedSimpArgs false
/-- What both programs' goodMatcher answer. -/
def matchB (x : S50) : Bool := nameL (Y x.f0) && (decide (1 ≤ x.f1) && (decide (x.f1 ≤ 4) && (prL 100 (Y x.f2) && (decide (x.f1 < 3) || patB x.f2))))
def fitM (l : List S50) : Prop := ∀ x ∈ l, x.f0.size ≤ 9223372036854775807 ∧ x.f2.size ≤ 9223372036854775807
def matchesB (l : List S50) : Bool := decide (l.length ≤ 10) && l.all matchB
theorem matcher_impl (x : S50) (h0 : x.f0.size ≤ 9223372036854775807) (h2 : x.f2.size ≤ 9223372036854775807) : Ev (fun k => impl_goodMatcher.f k x.f0 x.f1 x.f2) (matchB x) := by
 unfold impl_goodMatcher.f matchB
 refine ev_bind (name_impl _ h0) (ev_ite (fun h1 => ?_) (fun h1 => ?_))
 ·rw [h1, Bool.true_and]
  refine ev_ite (fun h3 => ?_) (fun h3 => ev_ite (fun h4 => ?_) (fun h4 => ?_))
  ·rw [decide_eq_false (show ¬ 1 ≤ x.f1 by omega), Bool.false_and]; exact ev_now _
  ·rw [decide_eq_false (show ¬ x.f1 ≤ 4 by omega), Bool.false_and, Bool.and_false]; exact ev_now _
  ·rw [decide_eq_true (show 1 ≤ x.f1 by omega), decide_eq_true (show x.f1 ≤ 4 by omega), Bool.true_and, Bool.true_and]
   refine ev_bind (printed_impl _ h2 100) (ev_ite (fun h5 => ?_) (fun h5 => ?_))
   ·rw [h5, Bool.true_and]
    refine ev_ite (fun h6 => ?_) (fun h6 => ?_)
    ·rw [decide_eq_true h6, Bool.true_or]; exact ev_now _
    ·rw [decide_eq_false h6, Bool.false_or]; exact ev_bind (pat_impl _ h2) (ev_now _)
   ·rw [Bool.eq_false_iff.2 h5, Bool.false_and]; exact ev_now _
 ·rw [Bool.eq_false_iff.2 h1, Bool.false_and]; exact ev_now _
theorem goodMatchers_impl (l : List S50) (hl : l.length ≤ 9223372036854775807) (hf : fitM l) : Ev (fun k => impl_GoodMatchers.f k l) (matchesB l) := by
 unfold impl_GoodMatchers.f matchesB
 refine ev_ite (fun h => ?_) (fun h => ?_)
 ·rw [decide_eq_true (show l.length ≤ 10 by omega), Bool.true_and]
  have h1 := any_Matcher (fun k x => (impl_goodMatcher.f k x.f0 x.f1 x.f2).bind fun b => some (!b)) (fun x => !(matchB x)) l hl (fun x hx => ev_bind (matcher_impl x (hf x hx).1 (hf x hx).2) (ev_now _))
  rw [show l.all matchB = !(l.any fun x => !(matchB x)) from by rw [List.not_any_eq_all_not]; simp]
  exact ev_bind h1 (ev_now _)
 ·rw [decide_eq_false (show ¬ l.length ≤ 10 by omega), Bool.false_and]; exact ev_now _
theorem goodMatchers_spec (l : List S50) (hl : l.length ≤ 9223372036854775807) (hf : fitM l) : Ev (fun k => spec_GoodMatchers.f k l) (matchesB l) := by
 unfold spec_GoodMatchers.f matchesB
 have hrd : ∀ (i : Nat) (h : i < l.length), rd_T50 l (i : Int) = l[i] := fun i h => getD_lt h
 refine ev_ite (fun h => ?_) (fun h => ?_)
 ·rw [decide_eq_false (show ¬ l.length ≤ 10 by omega), Bool.false_and]; exact ev_now _
 ·rw [decide_eq_true (show l.length ≤ 10 by omega), Bool.true_and]
  refine up_ind l.length (fun i => Ev (fun k => spec_GoodMatchers.l0 k l (l.length : Int) (i : Int)) ((l.drop i).all matchB)) ?_ ?_ 0 (by omega)
  ·rw [List.drop_length]
   exact ev_step (fun _ => spec_GoodMatchers.l0.eq_2 ..) (ev_neg (by omega) (ev_now _))
  ·intro i h ih
   obtain ⟨h0, h2⟩ := hf l[i] (List.getElem_mem h)
   refine ev_step (fun _ => spec_GoodMatchers.l0.eq_2 ..) (ev_pos (by omega) (ev_pos (by omega) (ev_pos (by omega) ?_)))
   rw [hrd i h, List.drop_eq_getElem_cons h, List.all_cons, w64n h (by omega)]
   unfold matchB
   refine ev_bind (name_spec _ h0) (ev_ite (fun h1 => ?_) (fun h1 => ?_))
   ·rw [h1, Bool.true_and]
    refine ev_ite (fun h3 => ?_) (fun h3 => ev_ite (fun h4 => ?_) (fun h4 => ev_ite (fun h5 => ?_) (fun h5 => ?_)))
    ·rw [decide_eq_false (show ¬ 1 ≤ l[i].f1 by omega), Bool.false_and, Bool.false_and]; exact ev_now _
    ·rw [decide_eq_false (show ¬ l[i].f1 ≤ 4 by omega), Bool.false_and, Bool.and_false, Bool.false_and]; exact ev_now _
    ·unfold prL
     rw [Y_len, decide_eq_false (show ¬ l[i].f2.size ≤ 100 by omega), Bool.false_and, Bool.false_and, Bool.and_false, Bool.and_false, Bool.false_and]; exact ev_now _
    ·rw [decide_eq_true (show 1 ≤ l[i].f1 by omega), decide_eq_true (show l[i].f1 ≤ 4 by omega), Bool.true_and, Bool.true_and]
     unfold prL
     rw [Y_len, decide_eq_true (show l[i].f2.size ≤ 100 by omega), Bool.true_and]
     refine ev_bind (printed_spec _ h2) (ev_ite (fun h6 => ?_) (fun h6 => ?_))
     ·rw [h6, Bool.true_and]
      refine ev_ite (fun h7 => ?_) (fun h7 => ?_)
      ·rw [decide_eq_false (show ¬ l[i].f1 < 3 by omega), Bool.false_or]
       refine ev_bind (pat_spec _ h2) (ev_ite (fun h8 => ?_) (fun h8 => ?_))
       ·rw [h8, Bool.true_and]; exact ih
       ·rw [Bool.eq_false_iff.2 h8, Bool.false_and]; exact ev_now _
      ·rw [decide_eq_true (show l[i].f1 < 3 by omega), Bool.true_or, Bool.true_and]; exact ih
     ·rw [Bool.eq_false_iff.2 h6, Bool.false_and, Bool.false_and]; exact ev_now _
   ·rw [Bool.eq_false_iff.2 h1, Bool.false_and, Bool.false_and]; exact ev_now _
theorem fitM_cv (l : List S45) (h : l.length ≤ 1048576 ∧ ∀ x ∈ l, sm45 x) : fitM (l.map cv45) := by
 intro x hx
 obtain ⟨y, hy, rfl⟩ := List.mem_map.1 hx
 obtain ⟨h1, h2⟩ := h.2 y hy
 exact ⟨by show y.f0.size ≤ _; omega, by show y.f2.size ≤ _; omega⟩
end Go.Proofs.YthkhflhmnjgbnaaGreat.U
namespace Go.Proofs.YthkhflhmnjgbnaaGreat.U
open Go.RowKit Go.Proofs.YthkhflhmnjgbnaaGreat.Pr Go.Proofs.YthkhflhmnjgbnaaGreatW.PrintWords Go.Proofs.YthkhflhmnjgbnaaGreatW.PrintLast Go.Proofs.YthkhflhmnjgbnaaGreatW.PrintMore
set_option linter.unusedVariables false
set_option linter.unusedSimpArgs false
theorem altP_f2 {c : Int} (h : c ≠ -1) : (altP c).f2 = false := by unfold altP; rw [if_neg h]; split <;> rfl
theorem altP_any : (altP (-2)).f1 = true := rfl
theorem altP_f1 {c : Int} (h : c ≠ -1) (h2 : c ≠ -2) : altP c = ⟨c, false, false⟩ := by unfold altP; rw [if_neg h, if_neg h2]
theorem row_rd {s : ByteArray} {l : List S119} {k : Nat} (h : k ≤ s.size) : rdOf false (rowP s l) (k : Int) = fitP s l k := by
 rw [rdOf, Int.toNat_natCast, List.getD_eq_getElem?_getD, rowP_at h]; rfl
theorem row_of {s : ByteArray} {l : List S119} {x : List Bool} (hl : x.length = s.size + 1) (h : ∀ q, q ≤ s.size → x[q]? = some (fitP s l q)) : x = rowP s l := by
 apply List.ext_getElem?
 intro q
 by_cases hq : q ≤ s.size
 ·rw [h q hq, rowP_at hq]
 ·rw [List.getElem?_eq_none (by omega), List.getElem?_eq_none (by rw [rowP_len]; omega)]
section
variable (a : List Int) (s : ByteArray) (ha : a.length ≤ 4611686018427387904) (hs : s.size ≤ 1048576)
theorem rest_in (i : Nat) (hi : i < a.length) (r : List Bool) (h : Ev (fun k => spec_l2Rest.l0 k a s (rowP s ((a.map altP).drop i)) ((i : Int) - 1)) r) (ha : a.length ≤ 4611686018427387904) (hs : s.size ≤ 1048576) :
  ∀ (kk : Nat) (x : List Bool), kk ≤ s.size + 1 → x.length = s.size + 1 → (∀ q, kk ≤ q → q ≤ s.size → x[q]? = some (fitP s ((a.map altP).drop i) q)) → Ev (fun k => spec_l2Rest.l1 k a s (rowP s ((a.map altP).drop (i + 1))) (i : Int) x ((kk : Int) - 1)) r := by
 intro kk
 induction kk with
 | zero =>
  intro x _ hx hq
  refine ev_step (fun _ => spec_l2Rest.l1.eq_2 ..) (ev_neg (by omega) ?_)
  rw [row_of hx (fun q h => hq q (Nat.zero_le _) h), w64 (by omega) (by omega)]
  exact h
 | succ q ih =>
  intro x hk hx hq
  have hil : i < (a.map altP).length := by simpa using hi
  have hel : (a.map altP)[i] = altP a[i] := by simp
  have e0 : ((q + 1 : Nat) : Int) - 1 = (q : Int) := by omega
  have e1 : wrap64 ((q : Int) - 1) = (q : Int) - 1 := w64 (by omega) (by omega)
  have e2 : wrap64 ((q : Int) + 1) = ((q + 1 : Nat) : Int) := by rw [w64 (by omega) (by omega)]; omega
  have hrl : (rowP s ((a.map altP).drop (i + 1))).length = s.size + 1 := rowP_len _ _
  have key : ∀ v, fitP s ((a.map altP).drop i) q = v → Ev (fun k => spec_l2Rest.l1 k a s (rowP s ((a.map altP).drop (i + 1))) (i : Int) (x.set ((q : Int)).toNat v) (wrap64 ((q : Int) - 1))) r := by
   intro v hv
   rw [e1, Int.toNat_natCast]
   refine ih _ (by omega) (by rw [List.length_set]; exact hx) (fun p h1 h2 => ?_)
   by_cases e : p = q
   ·subst e
    rw [List.getElem?_set_self (by omega), hv]
   ·rw [List.getElem?_set_ne (fun h => e h.symm)]
    exact hq p (by omega) h2
  refine ev_step (fun _ => spec_l2Rest.l1.eq_2 ..) ?_
  rw [e0]
  refine ev_pos (by omega) (ev_pos (by omega) (ev_pos (by omega) ?_))
  rw [rd_at hi, e2]
  by_cases hc : a[i] = -1
  ·have hst : ((a.map altP)[i]).f2 = true := by rw [hel, hc]; rfl
   refine ev_pos hc (ev_pos (by omega) (ev_pos (by omega) ?_))
   rw [row_rd (by omega)]
   refine ev_ite (fun hb => ev_pos (by omega) (key _ ?_)) (fun hb => ev_ite (fun hl => ev_pos (by omega) (ev_pos (by omega) (ev_pos (by omega) (key _ ?_)))) (fun hl => ev_pos (by omega) (key _ ?_)))
   ·rw [fitP_star hil hst]
    by_cases hl : q < s.size
    ·rw [starF_on hl, hb, Bool.true_or]
    ·rw [starF_end hl, hb]
   ·rw [fitP_star hil hst, starF_on (by omega), Bool.eq_false_iff.2 hb, Bool.false_or, ← fitP_star hil hst, rdOf, Int.toNat_natCast, List.getD_eq_getElem?_getD, hq (q + 1) (by omega) (by omega)]
    rfl
   ·rw [fitP_star hil hst, starF_end (by omega), Bool.eq_false_iff.2 hb]
  ·have hst : ((a.map altP)[i]).f2 = false := by rw [hel]; exact altP_f2 hc
   refine ev_neg hc (ev_ite (fun hl => ev_pos (by omega) (ev_pos (by omega) ?_)) (fun hl => ev_pos (by omega) (ev_pos (by omega) (key _ ?_))))
   ·rw [row_rd (by omega)]
    refine ev_ite (fun hb => ev_ite (fun h2 => ev_pos (by omega) (ev_pos (by omega) (key _ ?_))) (fun h2 => ev_pos (by omega) (ev_pos (by omega) (key _ ?_)))) (fun hb => ev_pos (by omega) (ev_pos (by omega) (key _ ?_)))
    ·rw [fitP_on hil hst, decide_eq_true (show q < s.size by omega), hel, h2, altP_any, hb]; rfl
    ·rw [fitP_on hil hst, decide_eq_true (show q < s.size by omega), hel, altP_f1 hc h2, hb, wrap_bt]
     simp
    ·rw [fitP_on hil hst, Bool.eq_false_iff.2 hb, Bool.and_false, Bool.and_false]
   ·rw [fitP_on hil hst, decide_eq_false (show ¬ q < s.size by omega), Bool.false_and]
theorem rest_spec (ha : a.length ≤ 4611686018427387904) (hs : s.size ≤ 1048576) : Ev (fun k => spec_l2Rest.f k a s) (rowP s (a.map altP)) := by
 have main : ∀ i, i ≤ a.length → Ev (fun k => spec_l2Rest.l0 k a s (rowP s ((a.map altP).drop i)) ((i : Int) - 1)) (rowP s (a.map altP)) := by
  intro i
  induction i with
  | zero =>
   intro _
   exact ev_step (fun _ => spec_l2Rest.l0.eq_2 ..) (ev_neg (by omega) (ev_now _))
  | succ i ih =>
   intro hi
   have h := ih (by omega)
   have e0 : ((i + 1 : Nat) : Int) - 1 = (i : Int) := by omega
   have e1 : wrap64 ((s.size : Int) + 1) = ((s.size + 1 : Nat) : Int) := by rw [w64 (by omega) (by omega)]; omega
   refine ev_step (fun _ => spec_l2Rest.l0.eq_2 ..) ?_
   rw [e0, e1]
   refine ev_pos (by omega) (ev_pos (by omega) (ev_pos (by omega) ?_))
   have := rest_in a s i (by omega) _ h ha hs (s.size + 1) (List.replicate (s.size + 1) false) (Nat.le_refl _) (by simp) (fun q h1 h2 => by omega)
   rw [show ((s.size + 1 : Nat) : Int) - 1 = (s.size : Int) by omega] at this
   rw [Int.toNat_natCast]
   exact this
 have h := main a.length (Nat.le_refl _)
 have e1 : wrap64 ((s.size : Int) + 1) = ((s.size + 1 : Nat) : Int) := by rw [w64 (by omega) (by omega)]; omega
 unfold spec_l2Rest.f
 rw [e1]
 refine ev_pos (by omega) (ev_pos (by omega) (ev_some (ev_pos (by omega) (ev_pos (by rw [List.length_replicate]; omega) ?_))))
 rw [w64 (by omega) (by omega), Int.toNat_natCast, Int.toNat_natCast]
 have e2 : (List.replicate (s.size + 1) false).set s.size true = rowP s ((a.map altP).drop a.length) := by
  refine row_of (by simp) (fun q hq => ?_)
  rw [fitP_nil (by simp)]
  by_cases e : q = s.size
  ·subst e
   rw [List.getElem?_set_self (by simp), decide_eq_true rfl]
  ·rw [List.getElem?_set_ne (fun h => e h.symm), decide_eq_false e, List.getElem?_replicate, if_pos (by omega)]
 rw [e2]
 exact h
end
/-- The alternatives' lengths. -/
theorem altS_len (s : ByteArray) (B : Nat) : ∀ (d i : Nat) (o : List (List Int)) (nw : List Int), (∀ x ∈ o, x.length ≤ B) → nw.length + d ≤ B → (∀ x ∈ (altS s d i o nw).1, x.length ≤ B) ∧ (altS s d i o nw).1.length ≤ o.length + d + 1 := by
 intro d
 induction d with
 | zero =>
  intro i o nw h1 h2
  simp only [altS]
  exact ⟨fun x hx => (List.mem_append.1 hx).elim (fun hx => h1 x hx) (fun hx => by rw [List.mem_singleton.1 hx]; omega), by simp⟩
 | succ d ih =>
  intro i o nw h1 h2
  have hw : ∀ x ∈ o ++ [nw], x.length ≤ B := fun x hx => (List.mem_append.1 hx).elim (fun hx => h1 x hx) (fun hx => by rw [List.mem_singleton.1 hx]; omega)
  have go : ∀ j (o' : List (List Int)) (nw' : List Int), (∀ x ∈ o', x.length ≤ B) → nw'.length + d ≤ B → o'.length ≤ o.length + 1 → (∀ x ∈ (altS s d j o' nw').1, x.length ≤ B) ∧ (altS s d j o' nw').1.length ≤ o.length + (d + 1) + 1 := fun j o' nw' g1 g2 g3 => ⟨(ih j o' nw' g1 g2).1, by have := (ih j o' nw' g1 g2).2; omega⟩
  simp only [altS]
  split
  ·split
   ·exact go _ _ _ hw (by simp; omega) (by simp)
   ·split
    ·exact go _ _ _ h1 (by simp; omega) (by omega)
    ·split
     ·exact go _ _ _ h1 (by simp; omega) (by omega)
     ·split
      ·split
       ·split
        ·exact go _ _ _ h1 (by simp; omega) (by omega)
        ·exact ⟨fun x hx => (by cases hx), by simp⟩
       ·exact ⟨fun x hx => (by cases hx), by simp⟩
      ·exact go _ _ _ h1 (by simp; omega) (by omega)
  ·exact ⟨hw, by simp⟩
theorem patA_len (s : ByteArray) : (∀ x ∈ patA s, x.length ≤ 100) ∧ (patA s).length ≤ 101 := by
 unfold patA
 split
 ·rename_i h
  have hz := prL_size h
  have := altS_len s s.size s.size 0 [] [] (fun x hx => by cases hx) (by simp)
  unfold altA
  exact ⟨fun x hx => by have := this.1 x hx; omega, by have := this.2; simp at this ⊢; omega⟩
 ·exact ⟨fun x hx => (by cases hx), by simp⟩
/-- What a good pattern's stars stand for. -/
def partsL (s : ByteArray) : List (List Int) → List ByteArray × Bool
 | [] => ([], false)
 | a :: l => if fitP s (a.map altP) 0 = true then (partP s (a.map altP) 0, true) else partsL s l
def ppL (p s : ByteArray) : List ByteArray × Bool := if patB p = true then (if s.size ≤ 100 then partsL s (patA p) else ([], false)) else ([], false)
theorem partsL_any (s : ByteArray) (l : List (List Int)) : (partsL s l).2 = l.any fun a => fitP s (a.map altP) 0 := by
 induction l with
 | nil => rfl
 | cons a l ih =>
  simp only [partsL, List.any_cons]
  by_cases h : fitP s (a.map altP) 0 = true
  ·rw [if_pos h, h]; rfl
  ·rw [if_neg h, Bool.eq_false_iff.2 h, Bool.false_or]; exact ih
theorem l2fits_spec (p s : ByteArray) (hp : p.size ≤ 9223372036854775807) (hs : s.size ≤ 1048576) : Ev (fun k => spec_l2Fits.f k p s) ((partsL s (patA p)).2) := by
 obtain ⟨h1, h2⟩ := patA_len p
 rw [partsL_any]
 unfold spec_l2Fits.f
 refine ev_bind (alt_spec p hp) ?_
 generalize patA p = l at h1 h2
 have hrd : ∀ (i : Nat) (h : i < l.length), rd_L15 l (i : Int) = l[i] := fun i h => getD_lt h
 refine up_ind l.length (fun i => Ev (fun k => spec_l2Fits.l0 k s l (l.length : Int) (i : Int)) ((l.drop i).any fun a => fitP s (a.map altP) 0)) ?_ ?_ 0 (by omega)
 ·rw [List.drop_length]
  exact ev_step (fun _ => spec_l2Fits.l0.eq_2 ..) (ev_neg (by omega) (ev_now _))
 ·intro i h ih
  refine ev_step (fun _ => spec_l2Fits.l0.eq_2 ..) (ev_pos (by omega) (ev_pos (by omega) (ev_pos (by omega) ?_)))
  rw [hrd i h, List.drop_eq_getElem_cons h, List.any_cons, w64n h (by omega)]
  refine ev_bind (rest_spec l[i] s (by have := h1 _ (List.getElem_mem h); omega) hs) (ev_pos (by rw [rowP_len]; omega) ?_)
  rw [show rdOf false (rowP s (l[i].map altP)) 0 = fitP s (l[i].map altP) 0 from row_rd (k := 0) (Nat.zero_le _)]
  refine ev_ite (fun hb => ?_) (fun hb => ?_)
  ·rw [hb, Bool.true_or]; exact ev_now _
  ·rw [Bool.eq_false_iff.2 hb, Bool.false_or]; exact ih
theorem pp_impl (p s : ByteArray) (hp : p.size ≤ 9223372036854775807) (hs : s.size ≤ 1048576) : Ev (fun k => impl_PatternParts.f k p s) (ppL p s) := by
 obtain ⟨h1, h2⟩ := patA_len p
 unfold impl_PatternParts.f ppL
 refine ev_bind (alt_impl p hp) (ev_ite (fun h => ?_) (fun h => ?_))
 ·rw [if_pos h]
  refine ev_step (fun _ => impl_PatternParts.j0.eq_2 ..) (ev_ite (fun h3 => ?_) (fun h3 => ?_))
  ·rw [if_neg (by have := of_decide_eq_true h3; omega)]; exact ev_now _
  ·have hz : s.size ≤ 100 := by
    rcases Nat.lt_or_ge 100 s.size with h4 | h4
    ·exact absurd (decide_eq_true (by omega)) h3
    ·exact h4
   rw [if_pos hz]
   generalize patA p = l at h1 h2
   have hrd : ∀ (i : Nat) (h : i < l.length), rd_L18 (l.map (List.map altP)) (i : Int) = l[i].map altP := fun i h => by
    show (l.map (List.map altP)).getD ((i : Int)).toNat _ = _
    rw [Int.toNat_natCast, List.getD_eq_getElem?_getD, List.getElem?_map, List.getElem?_eq_getElem h]; rfl
   have hlen : (l.map (List.map altP)).length = l.length := by simp
   refine up_ind l.length (fun i => Ev (fun k => impl_PatternParts.l0 k s (l.map (List.map altP)) ((l.map (List.map altP)).length : Int) (i : Int)) (partsL s (l.drop i))) ?_ ?_ 0 (by omega)
   ·rw [List.drop_length, hlen]
    exact ev_step (fun _ => impl_PatternParts.l0.eq_2 ..) (ev_neg (by omega) (ev_now _))
   ·intro i h ih
    have hl := h1 _ (List.getElem_mem h)
    refine ev_step (fun _ => impl_PatternParts.l0.eq_2 ..) (ev_pos (by omega) (ev_pos (by omega) (ev_pos (by omega) ?_)))
    rw [hrd i h, List.drop_eq_getElem_cons h, w64n h (by omega)]
    simp only [partsL]
    have hp : impl_parts.f (l[i].map altP) s = if fitP s (l[i].map altP) 0 = true then some (partP s (l[i].map altP) 0, true) else some ([], false) := by
     unfold impl_parts.f
     rw [if_pos (by simp; omega), if_pos (by omega)]
    by_cases hb : fitP s (l[i].map altP) 0 = true
    ·rw [if_pos hb] at hp ⊢
     exact ev_bind (ev_eq hp) (ev_pos rfl (ev_now _))
    ·rw [if_neg hb] at hp ⊢
     exact ev_bind (ev_eq hp) (ev_neg (by decide) ih)
 ·rw [if_neg h]
  exact ev_step (fun _ => impl_PatternParts.j0.eq_2 ..) (ev_pos rfl (ev_now _))
theorem pf_impl (p s : ByteArray) (hp : p.size ≤ 9223372036854775807) (hs : s.size ≤ 1048576) : Ev (fun k => impl_PatternFits.f k p s) (ppL p s).2 := by
 unfold impl_PatternFits.f
 exact ev_bind (pp_impl p s hp hs) (ev_now _)
end Go.Proofs.YthkhflhmnjgbnaaGreat.U
namespace Go.Proofs.YthkhflhmnjgbnaaGreat.U
open Go.RowKit Go.Proofs.YthkhflhmnjgbnaaGreat.Pr Go.Proofs.YthkhflhmnjgbnaaGreatW.PrintWords Go.Proofs.YthkhflhmnjgbnaaGreatW.PrintLast Go.Proofs.YthkhflhmnjgbnaaGreatW.PrintMore
set_option linter.unusedVariables false
set_option linter.unusedSimpArgs false
theorem riseL_val : ∀ (l : List S79) (p : Option (List UInt8)), riseL p l = true → ∀ x ∈ l, x.f1.size ≤ 100 := by
 intro l
 induction l with
 | nil => intro p _ x hx; cases hx
 | cons y l ih =>
  intro p h x hx
  simp only [riseL, Bool.and_eq_true] at h
  rcases List.mem_cons.1 hx with rfl | hx
  ·have h1 : valL (Y x.f1) = true := by first | exact h.1.1.2 | exact h.1.2 | exact h.2.1 | exact h.1.1.1.2
   unfold valL at h1
   rw [Bool.and_eq_true] at h1
   exact prL_size h1.2
  ·exact ih _ (by first | exact h.2 | exact h.2.2) x hx
theorem ofL_size (n : ByteArray) : ∀ l : List S79, (∀ x ∈ l, x.f1.size ≤ 100) → (ofL n l).size ≤ 100 := by
 intro l
 induction l with
 | nil => intro _; exact Nat.zero_le _
 | cons y l ih =>
  intro h
  simp only [ofL]
  split
  ·exact h y (List.mem_cons_self ..)
  ·exact ih (fun x hx => h x (List.mem_cons_of_mem _ hx))
def fitOne (x : S50) (v : ByteArray) : Bool := if x.f1 = 1 then v.toList == x.f2.toList else if x.f1 = 2 then v.toList != x.f2.toList else if x.f1 = 3 then (ppL x.f2 v).2 else !((ppL x.f2 v).2)
def allFit (m : List S50) (l : List S79) : Bool := m.all fun x => fitOne x (ofL x.f0 l)
theorem fits_impl (m : List S50) (l : List S79) (hm : m.length ≤ 9223372036854775807) (hf : fitM m) (hl : l.length ≤ 9223372036854775807) (hv : ∀ x ∈ l, x.f1.size ≤ 100) : Ev (fun k => impl_fits.f k m l) (allFit m l) := by
 have hrd : ∀ (i : Nat) (h : i < m.length), rd_T50 m (i : Int) = m[i] := fun i h => getD_lt h
 unfold impl_fits.f allFit
 refine up_ind m.length (fun i => Ev (fun k => impl_fits.l0 k l m (m.length : Int) (i : Int)) ((m.drop i).all fun x => fitOne x (ofL x.f0 l))) ?_ ?_ 0 (by omega)
 ·rw [List.drop_length]
  exact ev_step (fun _ => impl_fits.l0.eq_2 ..) (ev_neg (by omega) (ev_now _))
 ·intro i h ih
  refine ev_step (fun _ => impl_fits.l0.eq_2 ..) (ev_pos (by omega) (ev_pos (by omega) (ev_pos (by omega) ?_)))
  rw [hrd i h, List.drop_eq_getElem_cons h, List.all_cons, w64n h (by omega)]
  have h2 := (hf _ (List.getElem_mem h)).2
  have hs := ofL_size m[i].f0 l hv
  have one : Ev (fun k => impl_fitsOne.f k m[i].f0 m[i].f1 m[i].f2 l) (fitOne m[i] (ofL m[i].f0 l)) := by
   unfold impl_fitsOne.f fitOne
   refine ev_bind (of_impl l hl _) (ev_ite (fun h1 => ?_) (fun h1 => ev_ite (fun h3 => ?_) (fun h3 => ev_ite (fun h4 => ?_) (fun h4 => ?_))))
   ·rw [if_pos h1]; exact ev_now _
   ·rw [if_neg h1, if_pos h3]; exact ev_now _
   ·rw [if_neg h1, if_neg h3, if_pos h4]; exact ev_bind (pf_impl _ _ h2 (by omega)) (ev_now _)
   ·rw [if_neg h1, if_neg h3, if_neg h4]; exact ev_bind (pf_impl _ _ h2 (by omega)) (ev_now _)
  refine ev_bind one (ev_ite (fun hb => ?_) (fun hb => ?_))
  ·rw [hb, Bool.true_and]; exact ih
  ·rw [Bool.eq_false_iff.2 hb, Bool.false_and]; exact ev_now _
theorem ppL_good {p s : ByteArray} (hp : patB p = true) (hs : s.size ≤ 100) : ppL p s = partsL s (patA p) := by unfold ppL; rw [if_pos hp, if_pos hs]
theorem all_spec (m : List S50) (l : List S79) (hm : m.length ≤ 9223372036854775807) (hf : fitM m) (hl : l.length ≤ 9223372036854775807) (hv : ∀ x ∈ l, x.f1.size ≤ 100) (hg : ∀ x ∈ m, matchB x = true) : Ev (fun k => spec_l2All.f k m l) (allFit m l) := by
 have hrd : ∀ (i : Nat) (h : i < m.length), rd_T50 m (i : Int) = m[i] := fun i h => getD_lt h
 unfold spec_l2All.f allFit
 refine up_ind m.length (fun i => Ev (fun k => spec_l2All.l0 k l m (m.length : Int) (i : Int)) ((m.drop i).all fun x => fitOne x (ofL x.f0 l))) ?_ ?_ 0 (by omega)
 ·rw [List.drop_length]
  exact ev_step (fun _ => spec_l2All.l0.eq_2 ..) (ev_neg (by omega) (ev_now _))
 ·intro i h ih
  refine ev_step (fun _ => spec_l2All.l0.eq_2 ..) (ev_pos (by omega) (ev_pos (by omega) (ev_pos (by omega) ?_)))
  rw [hrd i h, List.drop_eq_getElem_cons h, List.all_cons, w64n h (by omega)]
  have h2 := (hf _ (List.getElem_mem h)).2
  have hs := ofL_size m[i].f0 l hv
  have hgm := hg _ (List.getElem_mem h)
  unfold matchB at hgm
  simp only [Bool.and_eq_true, decide_eq_true_eq, Bool.or_eq_true] at hgm
  have one : Ev (fun k => spec_l2Match.f k m[i].f0 m[i].f1 m[i].f2 (ofL m[i].f0 l)) (fitOne m[i] (ofL m[i].f0 l)) := by
   unfold spec_l2Match.f fitOne
   refine ev_ite (fun h1 => ?_) (fun h1 => ev_ite (fun h3 => ?_) (fun h3 => ?_))
   ·rw [if_pos h1]; exact ev_now _
   ·rw [if_neg h1, if_pos h3]; exact ev_now _
   ·have hp : patB m[i].f2 = true := by
     rcases hgm.2.2.2.2 with h5 | h5
     ·have := hgm.2.1; omega
     ·exact h5
    rw [if_neg h1, if_neg h3, ppL_good hp hs]
    refine ev_ite (fun h4 => ?_) (fun h4 => ?_)
    ·rw [if_pos h4]; exact ev_bind (l2fits_spec _ _ h2 (by omega)) (ev_now _)
    ·rw [if_neg h4]; exact ev_bind (l2fits_spec _ _ h2 (by omega)) (ev_now _)
  refine ev_bind (of_spec l hl _) (ev_bind one (ev_ite (fun hb => ?_) (fun hb => ?_)))
  ·rw [hb, Bool.true_and]; exact ih
  ·rw [Bool.eq_false_iff.2 hb, Bool.false_and]; exact ev_now _
theorem good_val {l : List S79} (h : goodL l = true) : ∀ x ∈ l, x.f1.size ≤ 100 := by
 unfold goodL at h
 rw [Bool.and_eq_true] at h
 exact riseL_val l _ h.2
end Go.Proofs.YthkhflhmnjgbnaaGreat.U
namespace Go.Proofs.YthkhflhmnjgbnaaGreat.U
open Go.RowKit Go.Proofs.YthkhflhmnjgbnaaGreat.Pr Go.Proofs.YthkhflhmnjgbnaaGreatW.PrintWords Go.Proofs.YthkhflhmnjgbnaaGreatW.PrintLast Go.Proofs.YthkhflhmnjgbnaaGreatW.PrintMore
set_option linter.unusedVariables false
set_option linter.unusedSimpArgs false
def cutS (a b : Int) (x : List S69) : List S69 := x.filter fun s => decide (s.f0 ≥ a) && decide (s.f0 ≤ b)
def selR (m : List S50) (a b : Int) : List S56 → List S56
 | [] => []
 | s :: t => if allFit m s.f0 = true then (if (cutS a b s.f1).length = 0 then selR m a b t else ⟨s.f0, cutS a b s.f1⟩ :: selR m a b t) else selR m a b t
theorem selR_len (m : List S50) (a b : Int) : ∀ l, (selR m a b l).length ≤ l.length := by
 intro l
 induction l with
 | nil => exact Nat.le_refl _
 | cons s t ih =>
  simp only [selR]
  split
  ·split
   ·simp; omega
   ·simp; omega
  ·simp; omega
theorem selR_mem (m : List S50) (a b : Int) : ∀ l, ∀ x ∈ selR m a b l, ∃ s ∈ l, x.f0 = s.f0 ∧ x.f1.length ≤ s.f1.length := by
 intro l
 induction l with
 | nil => intro x hx; cases hx
 | cons s t ih =>
  intro x hx
  have up : (∃ s' ∈ t, x.f0 = s'.f0 ∧ x.f1.length ≤ s'.f1.length) → ∃ s' ∈ s :: t, x.f0 = s'.f0 ∧ x.f1.length ≤ s'.f1.length := fun ⟨s', h, h2⟩ => ⟨s', List.mem_cons_of_mem _ h, h2⟩
  simp only [selR] at hx
  split at hx
  ·split at hx
   ·exact up (ih x hx)
   ·rcases List.mem_cons.1 hx with rfl | hx
    ·exact ⟨s, List.mem_cons_self .., rfl, List.length_filter_le ..⟩
    ·exact up (ih x hx)
  ·exact up (ih x hx)
theorem serL_good : ∀ (l : List S56) p, serL p l = true → ∀ x ∈ l, goodL x.f0 = true := by
 intro l
 induction l with
 | nil => intro _ _ x hx; cases hx
 | cons y ys ih =>
  intro p h x hx
  simp only [serL, Bool.and_eq_true] at h
  rcases List.mem_cons.1 hx with e | e
  ·subst e
   have := h.1.1.1.1
   unfold namedS at this
   exact (Bool.and_eq_true_iff.1 this).1
  ·exact ih _ h.2 x e
theorem sel_impl (l : List S56) (m : List S50) (a b : Int) (hl : l.length ≤ 1048576) (hm : m.length ≤ 9223372036854775807) (hf : fitM m) (hs : ∀ x ∈ l, x.f0.length ≤ 1048576 ∧ x.f1.length ≤ 1048576) (hg : ∀ x ∈ l, goodL x.f0 = true) : Ev (fun k => impl_selectSeries.f k l m a b) (selR m a b l) := by
 have hrd : ∀ (i : Nat) (h : i < l.length), rd_T56 l (i : Int) = l[i] := fun i h => getD_lt h
 unfold impl_selectSeries.f
 have key := up_ind l.length (fun i => ∀ acc : List S56, acc.length ≤ i → Ev (fun k => impl_selectSeries.l0 k m a b acc l (l.length : Int) (i : Int)) (acc ++ selR m a b (l.drop i))) ?_ ?_ 0 (by omega) [] (by simp)
 ·exact key
 ·intro acc ha
  rw [List.drop_length]
  simp only [selR, List.append_nil]
  exact ev_step (fun _ => impl_selectSeries.l0.eq_2 ..) (ev_neg (by omega) (ev_now _))
 ·intro i h ih acc ha
  obtain ⟨b0, b1⟩ := hs _ (List.getElem_mem h)
  refine ev_step (fun _ => impl_selectSeries.l0.eq_2 ..) (ev_pos (by omega) (ev_pos (by omega) (ev_pos (by omega) ?_)))
  rw [hrd i h, List.drop_eq_getElem_cons h, w64n h (by omega)]
  refine ev_bind (fits_impl m _ hm hf (by omega) (good_val (hg _ (List.getElem_mem h)))) ?_
  simp only [selR]
  refine ev_ite (fun h1 => ?_) (fun h1 => ?_)
  ·rw [if_pos h1]
   refine ev_bind (cut_impl _ b1 a b) (ev_ite (fun h2 => ?_) (fun h2 => ?_))
   ·have h3 : ¬ (cutS a b l[i].f1).length = 0 := by unfold cutS; omega
    rw [if_neg h3]
    refine ev_bind (ev_eq (show impl_Label.f l[i].f0 = some l[i].f0 by unfold impl_Label.f; rw [if_pos (by omega)])) (ev_pos (by omega) ?_)
    have := ih (acc ++ [⟨l[i].f0, cutS a b l[i].f1⟩]) (by rw [List.length_append, List.length_singleton]; omega)
    rw [List.append_assoc] at this
    exact this
   ·have h3 : (cutS a b l[i].f1).length = 0 := by unfold cutS; omega
    rw [if_pos h3]
    exact ih acc (by omega)
  ·rw [if_neg h1]
   exact ih acc (by omega)
theorem sel_spec (l : List S56) (m : List S50) (a b : Int) (hl : l.length ≤ 1048576) (hm : m.length ≤ 9223372036854775807) (hf : fitM m) (hs : ∀ x ∈ l, x.f0.length ≤ 1048576 ∧ x.f1.length ≤ 1048576) (hg : ∀ x ∈ l, goodL x.f0 = true) (hgm : ∀ x ∈ m, matchB x = true) : Ev (fun k => spec_l7Select.f k l m a b) (selR m a b l) := by
 have hrd : ∀ (i : Nat) (h : i < l.length), rd_T56 l (i : Int) = l[i] := fun i h => getD_lt h
 unfold spec_l7Select.f
 have key := up_ind l.length (fun i => ∀ acc : List S56, acc.length ≤ i → Ev (fun k => spec_l7Select.l0 k m a b acc l (l.length : Int) (i : Int)) (acc ++ selR m a b (l.drop i))) ?_ ?_ 0 (by omega) [] (by simp)
 ·exact key
 ·intro acc ha
  rw [List.drop_length]
  simp only [selR, List.append_nil]
  exact ev_step (fun _ => spec_l7Select.l0.eq_2 ..) (ev_neg (by omega) (ev_now _))
 ·intro i h ih acc ha
  obtain ⟨b0, b1⟩ := hs _ (List.getElem_mem h)
  refine ev_step (fun _ => spec_l7Select.l0.eq_2 ..) (ev_pos (by omega) (ev_pos (by omega) (ev_pos (by omega) ?_)))
  rw [hrd i h, List.drop_eq_getElem_cons h, w64n h (by omega)]
  refine ev_bind (cut_spec _ b1 a b) ?_
  simp only [selR]
  refine ev_ite (fun h2 => ?_) (fun h2 => ?_)
  ·have h3 : ¬ (cutS a b l[i].f1).length = 0 := by unfold cutS; omega
   refine ev_bind (all_spec m _ hm hf (by omega) (good_val (hg _ (List.getElem_mem h))) hgm) (ev_ite (fun h1 => ?_) (fun h1 => ?_))
   ·rw [if_pos h1, if_neg h3]
    refine ev_bind (ev_eq (show spec_l3Copy.f l[i].f0 = some l[i].f0 by unfold spec_l3Copy.f; rw [if_pos (by simp; omega), List.nil_append])) (ev_pos (by omega) ?_)
    have := ih (acc ++ [⟨l[i].f0, cutS a b l[i].f1⟩]) (by rw [List.length_append, List.length_singleton]; omega)
    rw [List.append_assoc] at this
    exact this
   ·rw [if_neg h1]
    exact ih acc (by omega)
  ·have h3 : (cutS a b l[i].f1).length = 0 := by unfold cutS; omega
   rw [if_pos h3, ite_self]
   exact ih acc (by omega)
theorem head_no (a b c : Int) (l : List S56) (hf : fitS l) (h : ¬ goodSer l = true) : Ev (fun k => impl_GoodHead.f k a b c l) false := by
 have no1 : Ev (fun k => impl_GoodHead.j0 k true a b c l) false := ev_step (fun _ => impl_GoodHead.j0.eq_2 ..) (ev_pos rfl (ev_now _))
 unfold impl_GoodHead.f
 by_cases hw : (0 ≤ a ∧ a ≤ 1000000000000) ∧ 0 ≤ b ∧ b ≤ 200
 ·exact ev_bind (ev_eq (gw_yes hw.1 hw.2)) (ev_pos rfl (ev_bind (goodSeries_impl l hf) (ev_neg h no1)))
 ·exact ev_bind (ev_eq (gw_no hw)) (ev_neg (by decide) no1)
theorem selHead_two (a b c : Int) (l : List S56) (m : List S50) (p q : Int) (hfs : fitS l) (hl : l.length ≤ 1048576) (hm : m.length ≤ 9223372036854775807) (hf : fitM m) (hs : ∀ x ∈ l, x.f0.length ≤ 1048576 ∧ x.f1.length ≤ 1048576) : ∃ v : List S56, v.length ≤ 1048576 ∧ (∀ x ∈ v, x.f0.length ≤ 1048576 ∧ x.f1.length ≤ 1048576) ∧ Ev (fun k => impl_SelectHead.f k a b c l m p q) v ∧ Ev (fun k => spec_SelectHead.f k a b c l m p q) v := by
 obtain ⟨r, e1, e2⟩ := head_two a b c l hfs
 unfold impl_SelectHead.f spec_SelectHead.f
 have nil : ∀ x ∈ ([] : List S56), x.f0.length ≤ 1048576 ∧ x.f1.length ≤ 1048576 := fun x hx => by cases hx
 cases r with
 | false => exact ⟨[], by simp, nil, ev_bind e1 (ev_neg (by decide) (ev_now _)), ev_bind e2 (ev_neg (by decide) (ev_now _))⟩
 | true =>
  by_cases hg : matchesB m = true
  ·have hgs : goodSer l = true := by
    apply Classical.byContradiction
    intro hn
    have := ev_one e1 (head_no a b c l hfs hn)
    cases this
   have hgl := serL_good l none (by unfold goodSer at hgs; exact (Bool.and_eq_true_iff.1 hgs).2)
   have hgm : ∀ x ∈ m, matchB x = true := by
    have h2 := hg
    unfold matchesB at h2
    rw [Bool.and_eq_true, List.all_eq_true] at h2
    exact h2.2
   refine ⟨selR m p q l, Nat.le_trans (selR_len ..) hl, fun x hx => ?_, ev_bind e1 (ev_pos rfl (ev_bind (goodMatchers_impl m hm hf) (ev_pos hg (ev_bind (sel_impl l m p q hl hm hf hs hgl) (ev_now _))))), ev_bind e2 (ev_pos rfl (ev_bind (goodMatchers_spec m hm hf) (ev_pos hg (ev_bind (sel_spec l m p q hl hm hf hs hgl hgm) (ev_now _)))))⟩
   obtain ⟨s, h1, h2, h3⟩ := selR_mem m p q l x hx
   have := hs s h1
   exact ⟨by rw [h2]; exact this.1, by omega⟩
  ·exact ⟨[], by simp, nil, ev_bind e1 (ev_pos rfl (ev_bind (goodMatchers_impl m hm hf) (ev_neg hg (ev_now _)))), ev_bind e2 (ev_pos rfl (ev_bind (goodMatchers_spec m hm hf) (ev_neg hg (ev_now _))))⟩
end Go.Proofs.YthkhflhmnjgbnaaGreat.U
namespace Go.Proofs.YthkhflhmnjgbnaaGreat.U
open Go.RowKit Go.Proofs.YthkhflhmnjgbnaaGreat.Pr Go.Proofs.YthkhflhmnjgbnaaGreatW.PrintWords Go.Proofs.YthkhflhmnjgbnaaGreatW.PrintLast Go.Proofs.YthkhflhmnjgbnaaGreatW.PrintMore
set_option linter.unusedVariables false
set_option linter.unusedSimpArgs false
theorem mark_labels (n : Nat) (hn : n ≤ 1048576) : ∀ (d i : Nat) (x : List S79) (c : Int), x.length = n → i + d = n → 0 < c → c + 2 * d ≤ 9000000000000000000 → ∃ y, Ev (fun k => laws_markLabelS.l0 k x c (i : Int)) (c + 2 * d, y) := by
 intro d
 induction d with
 | zero =>
  intro i x c hx hi h0 h1
  refine ⟨x, ev_step (fun _ => laws_markLabelS.l0.eq_2 ..) (ev_neg (by omega) ?_)⟩
  rw [show c + 2 * ((0 : Nat) : Int) = c from by omega]
  exact ev_now _
 | succ d ih =>
  intro i x c hx hi h0 h1
  obtain ⟨s, es⟩ := markText c h0 (by omega)
  obtain ⟨s2, es2⟩ := markText (c + 1) (by omega) (by omega)
  obtain ⟨y, e⟩ := ih (i + 1) ((x.set i ⟨s, (rd_T79 x (i : Int)).f1⟩).set i ⟨(rd_T79 (x.set i ⟨s, (rd_T79 x (i : Int)).f1⟩) (i : Int)).f0, s2⟩) (c + 2) (by simp [hx]) (by omega) (by omega) (by omega)
  refine ⟨y, ev_step (fun _ => laws_markLabelS.l0.eq_2 ..) (ev_pos (by omega) (ev_bind es (ev_pos (by omega) (ev_some ?_))))⟩
  rw [w64 (x := c + 1) (by omega) (by omega), w64 (x := c + 1 + 1) (by omega) (by omega), w64n (show i < n from by omega) (by omega), Int.toNat_natCast, show c + 2 * ((d + 1 : Nat) : Int) = c + 2 + 2 * (d : Int) from by omega, show c + 1 + 1 = c + 2 from by omega]
  exact ev_bind es2 e
theorem mark_samples (n : Nat) (hn : n ≤ 1048576) : ∀ (d i : Nat) (x : List S69) (c : Int), x.length = n → i + d = n → 0 < c → c + 2 * d ≤ 9000000000000000000 → ∃ y, Ev (fun k => laws_markSampleS.l0 k x c (i : Int)) (c + 2 * d, y) := by
 intro d
 induction d with
 | zero =>
  intro i x c hx hi h0 h1
  refine ⟨x, ev_step (fun _ => laws_markSampleS.l0.eq_2 ..) (ev_neg (by omega) ?_)⟩
  rw [show c + 2 * ((0 : Nat) : Int) = c from by omega]
  exact ev_now _
 | succ d ih =>
  intro i x c hx hi h0 h1
  obtain ⟨y, e⟩ := ih (i + 1) ((x.set i ⟨c, (rd_T69 x (i : Int)).f1⟩).set i ⟨(rd_T69 (x.set i ⟨c, (rd_T69 x (i : Int)).f1⟩) (i : Int)).f0, c + 1⟩) (c + 2) (by simp [hx]) (by omega) (by omega) (by omega)
  refine ⟨y, ev_step (fun _ => laws_markSampleS.l0.eq_2 ..) (ev_pos (by omega) (ev_pos (by omega) (ev_some ?_)))⟩
  rw [w64 (x := c + 1) (by omega) (by omega), w64 (x := c + 1 + 1) (by omega) (by omega), w64n (show i < n from by omega) (by omega), Int.toNat_natCast, show c + 2 * ((d + 1 : Nat) : Int) = c + 2 + 2 * (d : Int) from by omega, show c + 1 + 1 = c + 2 from by omega]
  exact e
theorem mark_matchers (n : Nat) (hn : n ≤ 1048576) : ∀ (d i : Nat) (x : List S50) (c : Int), x.length = n → i + d = n → 0 < c → c + 3 * d ≤ 9000000000000000000 → ∃ y, Ev (fun k => laws_markMatcherS.l0 k x c (i : Int)) (c + 3 * d, y) := by
 intro d
 induction d with
 | zero =>
  intro i x c hx hi h0 h1
  refine ⟨x, ev_step (fun _ => laws_markMatcherS.l0.eq_2 ..) (ev_neg (by omega) ?_)⟩
  rw [show c + 3 * ((0 : Nat) : Int) = c from by omega]
  exact ev_now _
 | succ d ih =>
  intro i x c hx hi h0 h1
  obtain ⟨s, es⟩ := markText c h0 (by omega)
  obtain ⟨s2, es2⟩ := markText (c + 2) (by omega) (by omega)
  have hset : ∀ (z : List S50) a, z.length = n → rd_T50 (z.set i a) (i : Int) = a := fun z a hz => by rw [show rd_T50 (z.set i a) (i : Int) = (z.set i a)[i]'(by simp; omega) from getD_lt (by simp; omega)]; simp
  obtain ⟨y, e⟩ := ih (i + 1) (x.set i ⟨s, c + 1, s2⟩) (c + 3) (by simp [hx]) (by omega) (by omega) (by omega)
  refine ⟨y, ev_step (fun _ => laws_markMatcherS.l0.eq_2 ..) (ev_pos (by omega) (ev_bind es (ev_pos (by omega) (ev_some (ev_some ?_)))))⟩
  rw [w64 (x := c + 1) (by omega) (by omega), w64 (x := c + 1 + 1) (by omega) (by omega), show c + 1 + 1 = c + 2 from by omega, w64 (x := c + 2 + 1) (by omega) (by omega), w64n (show i < n from by omega) (by omega), Int.toNat_natCast, show c + 3 * ((d + 1 : Nat) : Int) = c + 3 + 3 * (d : Int) from by omega, show c + 2 + 1 = c + 3 from by omega]
  refine ev_bind es2 ?_
  simp only [hset _ _ hx, hset _ _ (show (x.set i _).length = n by simp [hx]), List.set_set]
  exact e
end Go.Proofs.YthkhflhmnjgbnaaGreat.U
namespace Go.Proofs.YthkhflhmnjgbnaaGreat.U
open Go.RowKit Go.Proofs.YthkhflhmnjgbnaaGreat.Pr Go.Proofs.YthkhflhmnjgbnaaGreatW.PrintWords Go.Proofs.YthkhflhmnjgbnaaGreatW.PrintLast Go.Proofs.YthkhflhmnjgbnaaGreatW.PrintMore
set_option linter.unusedVariables false
set_option linter.unusedSimpArgs false
theorem mark_series_l (n : Nat) (hn : n ≤ 1048576) : ∀ (d i : Nat) (x : List S56) (c : Int), x.length = n → i + d = n → (∀ s ∈ x.drop i, s.f0.length ≤ 1048576 ∧ s.f1.length ≤ 1048576) → 0 < c → c + 4194304 * d ≤ 4000000000000000000 → ∃ y c', Ev (fun k => laws_markSeriesS.l0 k x c (i : Int)) (c', y) ∧ Ev (fun k => laws_heldSeriesS.l0 k y c (i : Int)) c' ∧ y.length = n ∧ (∀ j, j < i → y[j]? = x[j]?) ∧ c ≤ c' ∧ c' ≤ c + 4194304 * d := by
 intro d
 induction d with
 | zero =>
  intro i x c hx hi hs h0 h1
  exact ⟨x, c, ev_step (fun _ => laws_markSeriesS.l0.eq_2 ..) (ev_neg (by omega) (ev_now _)), ev_step (fun _ => laws_heldSeriesS.l0.eq_2 ..) (ev_neg (by omega) (ev_now _)), hx, fun _ _ => rfl, Int.le_refl _, by omega⟩
 | succ d ih =>
  intro i x c hx hi hs h0 h1
  have hix : i < x.length := by omega
  have hrd : rd_T56 x (i : Int) = x[i] := getD_lt hix
  rw [List.drop_eq_getElem_cons hix] at hs
  obtain ⟨b0, b1⟩ := hs x[i] List.mem_cons_self
  have hs' := fun r h => hs r (List.mem_cons_of_mem _ h)
  obtain ⟨y0, c0, m0, e0, q0, p0⟩ := markLabelS x[i].f0 b0 c h0 (by omega)
  obtain ⟨y1, c1, m1, e1, q1, p1⟩ := markSampleS x[i].f1 b1 c0 (by omega) (by omega)
  have wi : wrap64 ((i : Int) + 1) = ((i + 1 : Nat) : Int) := w64n (show i < n from by omega) (by omega)
  have hc1 : c1 ≤ c + 4194304 := by omega
  obtain ⟨y, c', e2, e3, hy, hk, q2, p2⟩ := ih (i + 1) (x.set i ⟨y0, y1⟩) c1 (by simp [hx]) (by omega) (by rw [List.drop_set_of_lt (by omega)]; exact hs') (by omega) (by omega)
  have hy2 : i < y.length := by omega
  have a1 : c ≤ c' := by omega
  have a2 : c' ≤ c + 4194304 * ((d + 1 : Nat) : Int) := by omega
  have n0 : ¬ c0 < 0 := by omega
  have n1 : ¬ c1 < 0 := by omega
  have l1 : (i : Int) < (x.length : Int) := by omega
  have l2 : (i : Int) < (y.length : Int) := by omega
  have l3 : 0 ≤ (i : Int) := by omega
  clear h1 hc1 p0 p1 p2 q0 q1 q2
  refine ⟨y, c', ev_step (fun _ => laws_markSeriesS.l0.eq_2 ..) (ev_pos l1 (ev_pos l3 ?_)), ev_step (fun _ => laws_heldSeriesS.l0.eq_2 ..) (ev_pos l2 (ev_pos l3 ?_)), hy, fun j h' => ?_, a1, a2⟩
  ·rw [hrd, wi, Int.toNat_natCast]
   exact ev_bind m0 (ev_bind m1 e2)
  ·have ey : rd_T56 y (i : Int) = ⟨y0, y1⟩ := by
    have := hk i (by omega)
    rw [List.getElem?_set_self hix, List.getElem?_eq_getElem hy2] at this
    rw [show rd_T56 y (i : Int) = y[i]'hy2 from getD_lt hy2]
    exact Option.some.inj this
   rw [ey, wi]
   exact ev_bind e0 (ev_neg n0 (ev_bind e1 (ev_neg n1 e3)))
  ·rw [hk j (by omega), List.getElem?_set_ne (by omega)]
theorem mark_series (l : List S56) (hl : l.length ≤ 1048576) (hs : ∀ x ∈ l, x.f0.length ≤ 1048576 ∧ x.f1.length ≤ 1048576) (c : Int) (h0 : 0 < c) (h1 : c ≤ 1000000000000000) : ∃ y c', Ev (fun k => laws_markSeriesS.f k l c) (c', y) ∧ Ev (fun k => laws_heldSeriesS.f k y c) c' ∧ c ≤ c' := by
 obtain ⟨y, c', e1, e2, _, _, q1, _⟩ := mark_series_l l.length hl l.length 0 l c rfl (by omega) (by simpa using hs) h0 (by omega)
 exact ⟨y, c', e1, e2, q1⟩
theorem mark_series1_l (n : Nat) (hn : n ≤ 1048576) : ∀ (d i : Nat) (x : List S56) (c : Int), x.length = n → i + d = n → (∀ s ∈ x.drop i, s.f0.length ≤ 1048576 ∧ s.f1.length ≤ 1048576) → 0 < c → c + 4194304 * d ≤ 4000000000000000000 → ∃ y c', Ev (fun k => laws_markSeriesS.l0 k x c (i : Int)) (c', y) ∧ c ≤ c' ∧ c' ≤ c + 4194304 * d := by
 intro d
 induction d with
 | zero =>
  intro i x c hx hi hs h0 h1
  exact ⟨x, c, ev_step (fun _ => laws_markSeriesS.l0.eq_2 ..) (ev_neg (by omega) (ev_now _)), Int.le_refl _, by omega⟩
 | succ d ih =>
  intro i x c hx hi hs h0 h1
  have hix : i < x.length := by omega
  have hrd : rd_T56 x (i : Int) = x[i] := getD_lt hix
  rw [List.drop_eq_getElem_cons hix] at hs
  obtain ⟨b0, b1⟩ := hs x[i] List.mem_cons_self
  have hs' := fun r h => hs r (List.mem_cons_of_mem _ h)
  obtain ⟨y0, m0⟩ := mark_labels x[i].f0.length b0 x[i].f0.length 0 x[i].f0 c rfl (by omega) h0 (by omega)
  obtain ⟨c0, hc0⟩ : ∃ c0 : Int, c0 = c + 2 * (x[i].f0.length : Int) := ⟨_, rfl⟩
  rw [← hc0] at m0
  obtain ⟨y1, m1⟩ := mark_samples x[i].f1.length b1 x[i].f1.length 0 x[i].f1 c0 rfl (by omega) (by omega) (by omega)
  obtain ⟨c1, hc1⟩ : ∃ c1 : Int, c1 = c0 + 2 * (x[i].f1.length : Int) := ⟨_, rfl⟩
  rw [← hc1] at m1
  have wi : wrap64 ((i : Int) + 1) = ((i + 1 : Nat) : Int) := w64n (show i < n from by omega) (by omega)
  obtain ⟨y, c', e2, q2, p2⟩ := ih (i + 1) (x.set i ⟨y0, y1⟩) c1 (by simp [hx]) (by omega) (by rw [List.drop_set_of_lt (by omega)]; exact hs') (by omega) (by omega)
  have a1 : c ≤ c' := by omega
  have a2 : c' ≤ c + 4194304 * ((d + 1 : Nat) : Int) := by omega
  have l1 : (i : Int) < (x.length : Int) := by omega
  have l3 : 0 ≤ (i : Int) := by omega
  clear h1 p2 q2
  refine ⟨y, c', ev_step (fun _ => laws_markSeriesS.l0.eq_2 ..) (ev_pos l1 (ev_pos l3 ?_)), a1, a2⟩
  rw [hrd, wi, Int.toNat_natCast]
  exact ev_bind (a := (c0, y0)) (by unfold laws_markLabelS.f; exact m0) (ev_bind (a := (c1, y1)) (by unfold laws_markSampleS.f; exact m1) e2)
theorem mark_series1 (l : List S56) (hl : l.length ≤ 1048576) (hs : ∀ x ∈ l, x.f0.length ≤ 1048576 ∧ x.f1.length ≤ 1048576) (c : Int) (h0 : 0 < c) (h1 : c ≤ 1000000000000000) : ∃ y c', Ev (fun k => laws_markSeriesS.f k l c) (c', y) ∧ c ≤ c' ∧ c' ≤ 1010000000000000 := by
 obtain ⟨y, c', e1, q1, p1⟩ := mark_series1_l l.length hl l.length 0 l c rfl (by omega) (by simpa using hs) h0 (by omega)
 exact ⟨y, c', e1, q1, by omega⟩
end Go.Proofs.YthkhflhmnjgbnaaGreat.U

