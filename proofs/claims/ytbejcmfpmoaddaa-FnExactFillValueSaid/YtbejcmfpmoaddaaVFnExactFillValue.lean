/- Plain lemmas over the printed functions, for the law FnExactFillValue; each theorem states its own conditions. -/
import Derived.Test.YtbejcmfpmoaddaaPrx0
import Derived.Test.YtbejcmfpmoaddaaPrxg40683n1
import Derived.Test.YtbejcmfpmoaddaaPrxgb38b7n1
namespace Go.Proofs.Ytbejcmfpmoaddaa.U
open Go.RowKit Go.Proofs.Ytbejcmfpmoaddaa.Pr Go.Proofs.YtbejcmfpmoaddaaW.PrintWords Go.Proofs.YtbejcmfpmoaddaaW.PrintLast Go.Proofs.YtbejcmfpmoaddaaW.PrintMore
set_option linter.unusedVariables false
set_option linter.unusedSimpArgs false
/-! Words for plain proofs over the printed functions: from some number of rounds on; loops that go up; ranges. -/
theorem w64 {x : Int} (h0 : -9223372036854775808 ≤ x) (h1 : x ≤ 9223372036854775807) : wrap64 x = x := by unfold wrap64; omega
theorem w64n {i n : Nat} (h : i < n) (hn : n ≤ 9223372036854775807) : wrap64 ((i : Int) + 1) = ((i + 1 : Nat) : Int) := by unfold wrap64; omega
theorem ev_now {α : Type} (r : α) : Ev (fun _ => some r) r := Ev.now r
theorem ev_pos {α : Type} {c : Prop} [Decidable c] {a b : Nat → Option α} {r : α} (h : c) (e : Ev a r) : Ev (fun k => if c then a k else b k) r := by
 obtain ⟨K, e⟩ := e
 exact ⟨K, fun k hk => (if_pos h).trans (e k hk)⟩
theorem ev_neg {α : Type} {c : Prop} [Decidable c] {a b : Nat → Option α} {r : α} (h : ¬ c) (e : Ev b r) : Ev (fun k => if c then a k else b k) r := by
 obtain ⟨K, e⟩ := e
 exact ⟨K, fun k hk => (if_neg h).trans (e k hk)⟩
theorem ev_ite {α : Type} {c : Prop} [Decidable c] {a b : Nat → Option α} {r : α} (h : c → Ev a r) (h' : ¬ c → Ev b r) : Ev (fun k => if c then a k else b k) r := by
 by_cases hc : c
 ·exact ev_pos hc (h hc)
 ·exact ev_neg hc (h' hc)
theorem ev_bind {α β : Type} {g : Nat → Option α} {f : Nat → α → Option β} {a : α} {r : β} (h : Ev g a) (k : Ev (fun n => f n a) r) : Ev (fun n => (g n).bind (f n)) r := Ev.bind h k
theorem ev_step {α : Type} {g f : Nat → Option α} {r : α} (h : ∀ k, g (k + 1) = f k) (k : Ev f r) : Ev g r := Ev.step h k
/-- What holds at the end and goes down a round, holds at each round. -/
theorem up_ind (n : Nat) (Q : Nat → Prop) (done : Q n) (step : ∀ i, i < n → Q (i + 1) → Q i) : ∀ i, i ≤ n → Q i := by
 have key : ∀ d i, i + d = n → Q i := by
  intro d
  induction d with
  | zero =>
   intro i h
   have e : i = n := by omega
   rw [e]
   exact done
  | succ d ih => intro i h; exact step i (by omega) (ih (i + 1) (by omega))
 exact fun i h => key (n - i) i (by omega)
theorem getD_lt {α : Type} {l : List α} {d : α} {i : Nat} (h : i < l.length) : l.getD ((i : Int).toNat) d = l[i] := by
 rw [Int.toNat_natCast, List.getD_eq_getElem?_getD, List.getElem?_eq_getElem h]
 rfl
theorem rdOf_at {α : Type} {d : α} {l : List α} {i : Nat} (h : i < l.length) : rdOf d l (i : Int) = l[i] := getD_lt h
/-- A loop that writes a row anew, element by element. -/
theorem ev_copy {α β : Type} (F : Nat → List β → Int → Option (List β)) (cv : α → β) (l : List α) (x : List β) (hx : x.length = l.length)
  (step : ∀ (i : Nat) (h : i < l.length) (y r : List β), y.length = l.length → Ev (fun k => F k (y.set i (cv l[i])) ((i + 1 : Nat) : Int)) r → Ev (fun k => F k y (i : Int)) r)
  (done : ∀ y : List β, y.length = l.length → Ev (fun k => F k y (l.length : Int)) y) : Ev (fun k => F k x 0) (l.map cv) := by
 refine up_ind l.length (fun i => ∀ y : List β, y.length = l.length → (∀ j, j < i → y[j]? = (l.map cv)[j]?) → Ev (fun k => F k y (i : Int)) (l.map cv)) ?_ ?_ 0 (by omega) x hx (fun j hj => by omega)
 ·intro y hy h
  have e : y = l.map cv := by
   apply List.ext_getElem?
   intro j
   by_cases hj : j < l.length
   ·exact h j hj
   ·rw [List.getElem?_eq_none (by omega), List.getElem?_eq_none (by simp; omega)]
  have d := done y hy
  rw [e] at d ⊢
  exact d
 ·intro i hi ih y hy h
  refine step i hi y _ hy (ih _ (by simp [hy]) (fun j hj => ?_))
  by_cases e : j = i
  ·subst e
   rw [List.getElem?_set_self (by omega), List.getElem?_map, List.getElem?_eq_getElem hi]
   rfl
  ·rw [List.getElem?_set_ne (Ne.symm e)]
   exact h j (by omega)
end Go.Proofs.Ytbejcmfpmoaddaa.U
namespace Go.Proofs.Ytbejcmfpmoaddaa.U
open Go.RowKit Go.Proofs.Ytbejcmfpmoaddaa.Pr Go.Proofs.YtbejcmfpmoaddaaW.PrintWords Go.Proofs.YtbejcmfpmoaddaaW.PrintLast Go.Proofs.YtbejcmfpmoaddaaW.PrintMore
set_option linter.unusedVariables false
set_option linter.unusedSimpArgs false
/-- A string's bytes. -/
abbrev Y (s : ByteArray) : List UInt8 := s.data.toList
theorem Y_eq {s : ByteArray} : s.toList = Y s := ByteArray.toList_eq s
theorem Y_len (s : ByteArray) : (Y s).length = s.size := Array.length_toList
theorem bt_at {s : ByteArray} {i : Nat} (h : i < s.size) : bt s (i : Int) = (((Y s)[i]'(by rw [Y_len]; exact h)).toNat : Int) := by
 unfold bt
 rw [dif_pos (show ((i : Int)).toNat < s.size from by omega)]
 rfl
theorem Y_drop {s : ByteArray} {i : Nat} (h : i < s.size) : (Y s).drop i = (Y s)[i]'(by rw [Y_len]; exact h) :: (Y s).drop (i + 1) := List.drop_eq_getElem_cons _
theorem Y_drop_end (s : ByteArray) : (Y s).drop s.size = [] := by rw [← Y_len, List.drop_length]
def prC (c : UInt8) : Bool := decide (32 ≤ (c.toNat : Int)) && decide ((c.toNat : Int) ≤ 126)
def prL (n : Nat) (l : List UInt8) : Bool := decide (l.length ≤ n) && l.all prC
end Go.Proofs.Ytbejcmfpmoaddaa.U
namespace Go.Proofs.Ytbejcmfpmoaddaa.U
open Go.RowKit Go.Proofs.Ytbejcmfpmoaddaa.Pr Go.Proofs.YtbejcmfpmoaddaaW.PrintWords Go.Proofs.YtbejcmfpmoaddaaW.PrintLast Go.Proofs.YtbejcmfpmoaddaaW.PrintMore
set_option linter.unusedVariables false
set_option linter.unusedSimpArgs false
theorem printed_spec (s : ByteArray) (hs : s.size ≤ 9223372036854775807) : Ev (fun k => spec_l2Printed.f k s) ((Y s).all prC) := by
 refine up_ind s.size (fun i => Ev (fun k => spec_l2Printed.l0 k s (i : Int)) (((Y s).drop i).all prC)) ?_ ?_ 0 (by omega)
 ·rw [Y_drop_end]
  exact ev_step (fun _ => spec_l2Printed.l0.eq_2 ..) (ev_neg (by omega) (ev_now _))
 ·intro i h ih
  refine ev_step (fun _ => spec_l2Printed.l0.eq_2 ..) (ev_pos (by omega) (ev_pos (by omega) ?_))
  rw [bt_at h, Y_drop h, List.all_cons, w64n h hs]
  unfold prC
  refine ev_ite (fun h1 => ?_) (fun h1 => ev_ite (fun h2 => ?_) (fun h2 => ?_))
  ·rw [decide_eq_false (by omega)]
   exact ev_now _
  ·rw [decide_eq_false (show ¬ _ ≤ (126 : Int) from by omega), Bool.and_false, Bool.false_and]
   exact ev_now _
  ·rw [decide_eq_true (by omega), decide_eq_true (by omega)]
   exact ih
theorem printed_impl (s : ByteArray) (hs : s.size ≤ 9223372036854775807) (n : Nat) : Ev (fun k => impl_printed.f k s (n : Int)) (prL n (Y s)) := by
 unfold impl_printed.f prL
 rw [Y_len]
 refine ev_ite (fun h => ?_) (fun h => ?_)
 ·rw [decide_eq_false (by omega)]
  exact ev_now _
 ·rw [decide_eq_true (by omega), Bool.true_and]
  refine up_ind s.size (fun i => Ev (fun k => impl_printed.l0 k s (s.size : Int) (i : Int)) (((Y s).drop i).all prC)) ?_ ?_ 0 (by omega)
  ·rw [Y_drop_end]
   exact ev_step (fun _ => impl_printed.l0.eq_2 ..) (ev_neg (by omega) (ev_now _))
  ·intro i h ih
   refine ev_step (fun _ => impl_printed.l0.eq_2 ..) (ev_pos (by omega) (ev_pos (by omega) (ev_pos (by omega) ?_)))
   rw [bt_at h, Y_drop h, List.all_cons, w64n h hs]
   unfold prC
   refine ev_ite (fun h1 => ?_) (fun h1 => ev_ite (fun h2 => ?_) (fun h2 => ?_))
   ·rw [decide_eq_false (by omega)]
    exact ev_now _
   ·rw [decide_eq_false (show ¬ _ ≤ (126 : Int) from by omega), Bool.and_false, Bool.false_and]
    exact ev_now _
   ·rw [decide_eq_true (by omega), decide_eq_true (by omega)]
    exact ih
end Go.Proofs.Ytbejcmfpmoaddaa.U
namespace Go.Proofs.Ytbejcmfpmoaddaa.U
open Go.RowKit Go.Proofs.Ytbejcmfpmoaddaa.Pr Go.Proofs.YtbejcmfpmoaddaaW.PrintWords Go.Proofs.YtbejcmfpmoaddaaW.PrintLast Go.Proofs.YtbejcmfpmoaddaaW.PrintMore
set_option linter.unusedVariables false
set_option linter.unusedSimpArgs false
theorem ev_if {α : Type} {c : Prop} [Decidable c] {a b : Nat → Option α} {x y : α} (h : Ev a x) (h' : Ev b y) : Ev (fun k => if c then a k else b k) (if c then x else y) := by
 by_cases hc : c
 ·rw [if_pos hc]; exact ev_pos hc h
 ·rw [if_neg hc]; exact ev_neg hc h'
theorem fill_l (s : ByteArray) (hs : s.size ≤ 4611686018427387904) : ∀ d i : Nat, i + d = s.size ∨ (d = 0 ∧ s.size ≤ i ∧ i ≤ s.size + 1) → ∃ v, Ev (fun k => impl_isFilling.l0 k s (i : Int)) v ∧ Ev (fun k => spec_l4Filling.l0 k s (i : Int)) v ∧ (s.size ≤ i → v = true) := by
 intro d
 induction d using Nat.strongRecOn with
 | ind d ih =>
  intro i h
  by_cases hi : i < s.size
  ·have e1 : wrap64 ((i : Int) + 1) = ((i + 1 : Nat) : Int) := w64n hi (by omega)
   have e2 : wrap64 ((((i + 1 : Nat)) : Int) + 1) = ((i + 2 : Nat) : Int) := by unfold wrap64; omega
   by_cases c : bt s (i : Int) = 36
   ·by_cases c1 : i + 1 = s.size
    ·refine ⟨false, ?_, ?_, fun hx => by omega⟩
     ·refine ev_step (fun _ => impl_isFilling.l0.eq_2 ..) (ev_pos (by omega) (ev_pos (by omega) (ev_pos c (ev_pos ?_ (ev_now _)))))
      rw [e1]; omega
     ·refine ev_step (fun _ => spec_l4Filling.l0.eq_2 ..) (ev_pos (by omega) (ev_pos (by omega) (ev_pos c (ev_pos ?_ (ev_now _)))))
      rw [e1]; omega
    ·have lead : ∀ v : Bool, (bt s ((i + 1 : Nat) : Int) = 36 → v = v) → True := fun _ _ => trivial
     obtain ⟨v, h1, h2, h3⟩ := ih (d - 2) (by omega) (i + 2) (by omega)
     by_cases c2 : bt s ((i + 1 : Nat) : Int) = 36
     ·refine ⟨v, ?_, ?_, fun hx => by omega⟩
      ·refine ev_step (fun _ => impl_isFilling.l0.eq_2 ..) (ev_pos (by omega) (ev_pos (by omega) (ev_pos c (ev_neg ?_ ?_))))
       ·rw [e1]; omega
       ·rw [e1, e2]
        exact ev_pos (by omega) (ev_pos (by omega) (ev_pos c2 h1))
      ·refine ev_step (fun _ => spec_l4Filling.l0.eq_2 ..) (ev_pos (by omega) (ev_pos (by omega) (ev_pos c (ev_neg ?_ ?_))))
       ·rw [e1]; omega
       ·rw [e1, e2]
        exact ev_pos (by omega) (ev_pos (by omega) (ev_pos c2 h2))
     ·refine ⟨if bt s ((i + 1 : Nat) : Int) < 49 then false else if bt s ((i + 1 : Nat) : Int) > 57 then false else v, ?_, ?_, fun hx => by omega⟩
      ·refine ev_step (fun _ => impl_isFilling.l0.eq_2 ..) (ev_pos (by omega) (ev_pos (by omega) (ev_pos c (ev_neg ?_ ?_))))
       ·rw [e1]; omega
       ·rw [e1, e2]
        exact ev_pos (by omega) (ev_pos (by omega) (ev_neg c2 (ev_if (ev_now _) (ev_if (ev_now _) h1))))
      ·refine ev_step (fun _ => spec_l4Filling.l0.eq_2 ..) (ev_pos (by omega) (ev_pos (by omega) (ev_pos c (ev_neg ?_ ?_))))
       ·rw [e1]; omega
       ·rw [e1, e2]
        exact ev_pos (by omega) (ev_pos (by omega) (ev_neg c2 (ev_if (ev_now _) (ev_if (ev_now _) h2))))
   ·obtain ⟨v, h1, h2, h3⟩ := ih (d - 1) (by omega) (i + 1) (by omega)
    refine ⟨v, ?_, ?_, fun hx => by omega⟩
    ·refine ev_step (fun _ => impl_isFilling.l0.eq_2 ..) (ev_pos (by omega) (ev_pos (by omega) (ev_neg c ?_)))
     rw [e1]; exact h1
    ·refine ev_step (fun _ => spec_l4Filling.l0.eq_2 ..) (ev_pos (by omega) (ev_pos (by omega) (ev_neg c ?_)))
     rw [e1]; exact h2
  ·exact ⟨true, ev_step (fun _ => impl_isFilling.l0.eq_2 ..) (ev_neg (by omega) (ev_now _)), ev_step (fun _ => spec_l4Filling.l0.eq_2 ..) (ev_neg (by omega) (ev_now _)), fun _ => rfl⟩
theorem fill_two (s : ByteArray) (hs : s.size ≤ 4611686018427387904) : ∃ v, Ev (fun k => impl_isFilling.f k s) v ∧ Ev (fun k => spec_l4Filling.f k s) v ∧ (s.toList = [] → v = true) := by
 obtain ⟨v, h1, h2, h3⟩ := fill_l s hs s.size 0 (by omega)
 have hp1 := printed_impl s (by omega) 100
 have hp2 := printed_spec s (by omega)
 by_cases hz : s.size ≤ 100
 ·cases hp : (Y s).all prC with
  | true =>
   refine ⟨v, ?_, ?_, fun he => h3 ?_⟩
   ·unfold impl_isFilling.f
    refine ev_bind hp1 (ev_pos ?_ h1)
    unfold prL; rw [Y_len, hp, decide_eq_true hz]; rfl
   ·unfold spec_l4Filling.f
    refine ev_neg (by omega) (ev_bind hp2 (ev_step (fun _ => spec_l4Filling.j0.eq_2 ..) (ev_neg (by rw [hp]; decide) h2)))
   ·have := Y_len s; rw [show Y s = [] from Y_eq.symm.trans he] at this; simp at this; omega
  | false =>
   refine ⟨false, ?_, ?_, fun he => ?_⟩
   ·unfold impl_isFilling.f
    refine ev_bind hp1 (ev_neg ?_ (ev_now _))
    unfold prL; rw [hp, Bool.and_false]; decide
   ·unfold spec_l4Filling.f
    refine ev_neg (by omega) (ev_bind hp2 (ev_step (fun _ => spec_l4Filling.j0.eq_2 ..) (ev_pos (by rw [hp]; rfl) (ev_now _))))
   ·rw [show Y s = [] from Y_eq.symm.trans he] at hp; cases hp
 ·refine ⟨false, ?_, ?_, fun he => ?_⟩
  ·unfold impl_isFilling.f
   refine ev_bind hp1 (ev_neg ?_ (ev_now _))
   unfold prL; rw [Y_len, decide_eq_false hz, Bool.false_and]; decide
  ·unfold spec_l4Filling.f
   exact ev_pos (by omega) (ev_step (fun _ => spec_l4Filling.j0.eq_2 ..) (ev_pos rfl (ev_now _)))
  ·have := Y_len s; rw [show Y s = [] from Y_eq.symm.trans he] at this; simp at this; omega
end Go.Proofs.Ytbejcmfpmoaddaa.U
namespace Go.Proofs.Ytbejcmfpmoaddaa.U
open Go.RowKit Go.Proofs.Ytbejcmfpmoaddaa.Pr Go.Proofs.YtbejcmfpmoaddaaW.PrintWords Go.Proofs.YtbejcmfpmoaddaaW.PrintLast Go.Proofs.YtbejcmfpmoaddaaW.PrintMore
set_option linter.unusedVariables false
set_option linter.unusedSimpArgs false
theorem rd_le (ps : List ByteArray) (hp : ∀ x ∈ ps, x.size ≤ 1048576) (j : Int) : (rdOf ByteArray.empty ps j).size ≤ 1048576 := by
 unfold rdOf
 rw [List.getD_eq_getElem?_getD]
 cases h : ps[j.toNat]? with
 | none => exact Nat.zero_le _
 | some x => exact hp x (List.mem_of_getElem? h)
theorem fill_run (s : ByteArray) (ps : List ByteArray) (hs : s.size ≤ 100) (hp : ∀ x ∈ ps, x.size ≤ 1048576) : ∀ (K i : Nat) (acc : ByteArray), impl_isFilling.l0 K s (i : Int) = some true → acc.size ≤ 1048576 * i → ∃ r, Ev (fun k => impl_FillValue.l0 k s ps acc (i : Int)) r ∧ Ev (fun k => spec_l4Fill.l0 k s ps acc (i : Int)) r := by
 intro K
 induction K with
 | zero => intro i acc h _; cases h
 | succ K ih =>
  intro i acc h ha
  simp only [impl_isFilling.l0] at h
  by_cases hi : (i : Int) < (s.size : Int)
  ·have e1 : wrap64 ((i : Int) + 1) = ((i + 1 : Nat) : Int) := by rw [w64 (by omega) (by omega)]; omega
   have e2 : wrap64 (((i + 1 : Nat) : Int) + 1) = ((i + 2 : Nat) : Int) := by rw [w64 (by omega) (by omega)]; omega
   rw [if_pos hi, if_pos (show 0 ≤ (i : Int) from by omega), e1, e2] at h
   by_cases c : bt s (i : Int) = 36
   ·rw [if_pos c] at h
    by_cases c1 : ((i + 1 : Nat) : Int) = (s.size : Int)
    ·rw [if_pos c1] at h; cases h
    rw [if_neg c1, if_pos (show 0 ≤ ((i + 1 : Nat) : Int) from by omega), if_pos (show ((i + 1 : Nat) : Int) < (s.size : Int) from by omega)] at h
    by_cases d : bt s ((i + 1 : Nat) : Int) = 36
    ·rw [if_pos d] at h
     obtain ⟨r, a, b⟩ := ih (i + 2) (acc ++ ⟨#[36]⟩) h (by rw [ByteArray.size_append]; show acc.size + 1 ≤ _; omega)
     refine ⟨r, ev_step (fun _ => impl_FillValue.l0.eq_2 ..) (ev_pos hi (ev_pos (by omega) (ev_pos c ?_))), ev_step (fun _ => spec_l4Fill.l0.eq_2 ..) (ev_pos hi (ev_pos (by omega) (ev_pos c ?_)))⟩
     ·rw [e1, e2]; exact ev_pos (by omega) (ev_pos (by omega) (ev_pos d (ev_pos (by omega) a)))
     ·rw [e1, e2]; exact ev_pos (by omega) (ev_pos (by omega) (ev_pos d (ev_pos (by omega) b)))
    ·rw [if_neg d] at h
     by_cases d1 : bt s ((i + 1 : Nat) : Int) < 49
     ·rw [if_pos d1] at h; cases h
     rw [if_neg d1] at h
     by_cases d2 : bt s ((i + 1 : Nat) : Int) > 57
     ·rw [if_pos d2] at h; cases h
     rw [if_neg d2] at h
     by_cases dj : (bt s ((i + 1 : Nat) : Int) - 49) % 256 < (ps.length : Int)
     ·have hr := rd_le ps hp ((bt s ((i + 1 : Nat) : Int) - 49) % 256)
      obtain ⟨r, a, b⟩ := ih (i + 2) (acc ++ rdOf ByteArray.empty ps ((bt s ((i + 1 : Nat) : Int) - 49) % 256)) h (by rw [ByteArray.size_append]; omega)
      refine ⟨r, ev_step (fun _ => impl_FillValue.l0.eq_2 ..) (ev_pos hi (ev_pos (by omega) (ev_pos c ?_))), ev_step (fun _ => spec_l4Fill.l0.eq_2 ..) (ev_pos hi (ev_pos (by omega) (ev_pos c ?_)))⟩
      ·rw [e1, e2]; exact ev_pos (by omega) (ev_pos (by omega) (ev_neg d (ev_pos dj (ev_pos (by omega) (ev_pos (by omega) a)))))
      ·rw [e1, e2]; exact ev_pos (by omega) (ev_pos (by omega) (ev_neg d (ev_pos dj (ev_pos (by omega) (ev_pos (by omega) b)))))
     ·obtain ⟨r, a, b⟩ := ih (i + 2) acc h (by omega)
      refine ⟨r, ev_step (fun _ => impl_FillValue.l0.eq_2 ..) (ev_pos hi (ev_pos (by omega) (ev_pos c ?_))), ev_step (fun _ => spec_l4Fill.l0.eq_2 ..) (ev_pos hi (ev_pos (by omega) (ev_pos c ?_)))⟩
      ·rw [e1, e2]; exact ev_pos (by omega) (ev_pos (by omega) (ev_neg d (ev_neg dj a)))
      ·rw [e1, e2]; exact ev_pos (by omega) (ev_pos (by omega) (ev_neg d (ev_neg dj b)))
   ·rw [if_neg c] at h
    have hz : (s.extract i (i + 1)).size = 1 := by rw [ByteArray.size_extract]; omega
    obtain ⟨r, a, b⟩ := ih (i + 1) (acc ++ s.extract i (i + 1)) h (by rw [ByteArray.size_append, hz]; omega)
    refine ⟨r, ev_step (fun _ => impl_FillValue.l0.eq_2 ..) (ev_pos hi (ev_pos (by omega) (ev_neg c ?_))), ev_step (fun _ => spec_l4Fill.l0.eq_2 ..) (ev_pos hi (ev_pos (by omega) (ev_neg c ?_)))⟩
    ·rw [e1, Int.toNat_natCast]; exact ev_pos (by omega) a
    ·rw [e1, Int.toNat_natCast, Int.toNat_natCast]; exact ev_pos (by omega) (ev_pos (by omega) (ev_pos (by omega) b))
  ·exact ⟨acc, ev_step (fun _ => impl_FillValue.l0.eq_2 ..) (ev_neg hi (ev_now _)), ev_step (fun _ => spec_l4Fill.l0.eq_2 ..) (ev_neg hi (ev_now _))⟩
theorem fillValue_two (s : ByteArray) (ps : List ByteArray) (hs : s.size ≤ 4611686018427387904) (hp : ∀ x ∈ ps, x.size ≤ 1048576) : ∃ r, Ev (fun k => impl_FillValue.f k s ps) r ∧ Ev (fun k => spec_FillValue.f k s ps) r := by
 obtain ⟨v, e1, e2, _⟩ := fill_two s hs
 unfold impl_FillValue.f spec_FillValue.f
 cases v with
 | false => exact ⟨⟨#[]⟩, ev_bind e1 (ev_neg (by decide) (ev_now _)), ev_bind e2 (ev_neg (by decide) (ev_now _))⟩
 | true =>
  by_cases hl : (ps.length : Int) > 100
  ·exact ⟨⟨#[]⟩, ev_bind e1 (ev_pos rfl (ev_pos hl (ev_now _))), ev_bind e2 (ev_pos rfl (ev_pos hl (ev_now _)))⟩
  ·have key : s.size ≤ 100 ∧ ∃ K, impl_isFilling.l0 K s ((0 : Nat) : Int) = some true := by
    obtain ⟨K, e1⟩ := e1
    have h := e1 K (Nat.le_refl _)
    unfold impl_isFilling.f at h
    obtain ⟨t, ht, h⟩ := Option.bind_eq_some_iff.mp h
    by_cases c : t = true
    ·rw [if_pos c] at h
     refine ⟨?_, K, h⟩
     subst c
     unfold impl_printed.f at ht
     by_cases q : (s.size : Int) > 100
     ·rw [if_pos q] at ht; cases ht
     ·omega
    ·rw [if_neg c] at h; cases h
   obtain ⟨hz, K, hK⟩ := key
   obtain ⟨r, a, b⟩ := fill_run s ps hz hp K 0 ⟨#[]⟩ hK (by show 0 ≤ _; omega)
   refine ⟨r, ev_bind e1 (ev_pos rfl (ev_neg hl a)), ev_bind e2 (ev_pos rfl (ev_neg hl (ev_bind (a := r) ?_ (ev_now _))))⟩
   unfold spec_l4Fill.f
   exact b
end Go.Proofs.Ytbejcmfpmoaddaa.U
namespace Go.Proofs.Ytbejcmfpmoaddaa.U
open Go.RowKit Go.Proofs.Ytbejcmfpmoaddaa.Pr Go.Proofs.YtbejcmfpmoaddaaW.PrintWords Go.Proofs.YtbejcmfpmoaddaaW.PrintLast Go.Proofs.YtbejcmfpmoaddaaW.PrintMore
set_option linter.unusedVariables false
set_option linter.unusedSimpArgs false
theorem toStringS (l : List ByteArray) (hl : (l.length ≤ 1048576 ∧ ∀ y ∈ l, y.size ≤ 1048576)) : Ev (fun k => laws_toStringS.f k l) (l) := by
 obtain ⟨hl, hs⟩ := hl
 unfold laws_toStringS.f
 repeat (first | (with_reducible refine ev_pos (by first | omega | rfl | decide) ?_) | (with_reducible refine ev_neg (by first | omega | decide) ?_))
 have key := ev_copy (F := fun k y i => laws_toStringS.l0 k l y i) (fun x => x) l (List.replicate ((l.length : Int) : Int).toNat (⟨#[]⟩ : ByteArray)) (by simp) ?step ?done
 case step =>
  intro i h y r hy hr
  refine ev_step (fun _ => laws_toStringS.l0.eq_2 ..) ?_
  repeat (first | (with_reducible refine ev_pos (by first | omega | rfl | decide) ?_) | (with_reducible refine ev_neg (by first | omega | decide) ?_))
  rw [rdOf_at h, w64n h (by omega), Int.toNat_natCast]
  exact hr
 case done =>
  intro y hy
  refine ev_step (fun _ => laws_toStringS.l0.eq_2 ..) ?_
  repeat (first | (with_reducible refine ev_pos (by first | omega | rfl | decide) ?_) | (with_reducible refine ev_neg (by first | omega | decide) ?_))
  exact ev_now _
 simpa using key
theorem eqStringS (l : List ByteArray) (hl : l.length ≤ 1048576) : Ev (fun k => laws_eqStringS.f k l l) true := by
 unfold laws_eqStringS.f
 refine ev_pos rfl ?_
 refine up_ind l.length (fun i => Ev (fun k => laws_eqStringS.l0 k l l (i : Int)) true) ?_ ?_ 0 (by omega)
 ·refine ev_step (fun _ => laws_eqStringS.l0.eq_2 ..) ?_
  refine ev_neg (by omega) ?_
  exact ev_now _
 ·intro i h ih
  refine ev_step (fun _ => laws_eqStringS.l0.eq_2 ..) ?_
  repeat (first | (with_reducible refine ev_pos (by first | omega | rfl | decide) ?_) | (with_reducible refine ev_neg (by first | omega | decide) ?_))
  rw [w64n h (by omega)]
  exact ih
theorem szStringS (l : List ByteArray) (c : Int) (h0 : 0 ≤ c) (h1 : c ≤ 1048576) (hl : l.length ≤ maxLen) (hw : ∀ x ∈ l, x.size ≤ maxLen) : ∃ r, Ev (fun k => laws_szStringS.f k l c) r ∧ r ≤ c ∧ (0 ≤ r → (l.length ≤ 1048576 ∧ ∀ y ∈ l, y.size ≤ 1048576)) := by
 simp only [maxLen] at hl
 unfold laws_szStringS.f
 rw [w64 (x := c - (l.length : Int)) (by omega) (by omega)]
 by_cases hn : c - (l.length : Int) < 0
 ·exact ⟨-1, ev_pos hn (ev_now _), by omega, fun h => absurd h (by decide)⟩
 ·have key := up_ind l.length (fun i => ∀ c : Int, 0 ≤ c → c ≤ 1048576 → ∃ r, Ev (fun k => laws_szStringS.l0 k l c (i : Int)) r ∧ r ≤ c ∧ (0 ≤ r → ∀ j (h : j < l.length), i ≤ j → l[j].size ≤ 1048576)) ?d ?s 0 (by omega) (c - (l.length : Int)) (by omega) (by omega)
  case d => exact fun c h0 h1 => ⟨c, ev_step (fun _ => laws_szStringS.l0.eq_2 ..) (ev_neg (by omega) (ev_now _)), Int.le_refl _, fun _ j h hj => by omega⟩
  case s =>
   intro i h ih c h0 h1
   have hz := hw _ (List.getElem_mem h)
   simp only [maxLen] at hz
   by_cases hr : c - (l[i].size : Int) < 0
   ·refine ⟨-1, ev_step (fun _ => laws_szStringS.l0.eq_2 ..) ?_, by omega, fun h => absurd h (by decide)⟩
    repeat (first | (with_reducible refine ev_pos (by first | omega | rfl | decide) ?_) | (with_reducible refine ev_neg (by first | omega | decide) ?_))
    rw [rdOf_at h, w64 (x := c - (l[i].size : Int)) (by omega) (by omega)]
    exact ev_pos hr (ev_now _)
   ·obtain ⟨r, e, hrc, hs⟩ := ih (c - (l[i].size : Int)) (by omega) (by omega)
    refine ⟨r, ev_step (fun _ => laws_szStringS.l0.eq_2 ..) ?_, by omega, fun h2 j hj hij => ?_⟩
    ·repeat (first | (with_reducible refine ev_pos (by first | omega | rfl | decide) ?_) | (with_reducible refine ev_neg (by first | omega | decide) ?_))
     rw [rdOf_at h, w64 (x := c - (l[i].size : Int)) (by omega) (by omega)]
     refine ev_neg hr ?_
     rw [w64n h (by omega)]
     exact e
    ·by_cases ej : j = i
     ·subst ej
      omega
     ·exact hs h2 j hj (by omega)
  obtain ⟨r, e, hrc, hs⟩ := key
  refine ⟨r, ev_neg hn e, by omega, fun h => ⟨by omega, fun y hy => ?_⟩⟩
  obtain ⟨j, hj, rfl⟩ := List.getElem_of_mem hy
  exact hs h j hj (by omega)
end Go.Proofs.Ytbejcmfpmoaddaa.U

