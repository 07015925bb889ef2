/- Plain lemmas over the printed functions, for the law FnExactMergeSeries; each theorem states its own conditions. -/
import Derived.Test.YtfdbbpnmnogddaaPrx0
import Derived.Test.YtfdbbpnmnogddaaPrxg4e368i1
import Derived.Test.YtfdbbpnmnogddaaPrxg4e368i2
import Derived.Test.YtfdbbpnmnogddaaPrxg4e368i3
import Derived.Test.YtfdbbpnmnogddaaPrxg4e368l1
import Derived.Test.YtfdbbpnmnogddaaPrxg4e368l2
import Derived.Test.YtfdbbpnmnogddaaPrxg4e368s1
import Derived.Test.YtfdbbpnmnogddaaPrxg4e368s2
namespace Go.Proofs.Ytfdbbpnmnogddaa.U
open Go.RowKit Go.Proofs.Ytfdbbpnmnogddaa.Pr Go.Proofs.YtfdbbpnmnogddaaW.PrintWords Go.Proofs.YtfdbbpnmnogddaaW.PrintLast Go.Proofs.YtfdbbpnmnogddaaW.PrintMore
set_option linter.unusedVariables false
set_option linter.unusedSimpArgs false
theorem w64 {x : Int} (h0 : -9223372036854775808 ≤ x) (h1 : x ≤ 9223372036854775807) : wrap64 x = x:=by unfold wrap64;omega
theorem w64n {i n : Nat} (h : i < n) (hn : n ≤ 9223372036854775807) : wrap64 ((i : Int) + 1) = ((i + 1 : Nat) : Int):=by unfold wrap64;omega
theorem ev_now {α : Type} (r : α) : Ev (fun _ => some r) r:=Ev.now r
theorem ev_eq {α : Type} {g : Option α} {r : α} (h : g = some r) : Ev (fun _ => g) r:=⟨0,fun _ _ => h⟩
theorem ev_pos {α : Type} {c : Prop} [Decidable c] {a b : Nat → Option α} {r : α} (h : c) (e : Ev a r) : Ev (fun k => if c then a k else b k) r:=by
 obtain ⟨K,e⟩:=e
 exact ⟨K,fun k hk => (if_pos h).trans (e k hk)⟩
theorem ev_neg {α : Type} {c : Prop} [Decidable c] {a b : Nat → Option α} {r : α} (h : ¬ c) (e : Ev b r) : Ev (fun k => if c then a k else b k) r:=by
 obtain ⟨K,e⟩:=e
 exact ⟨K,fun k hk => (if_neg h).trans (e k hk)⟩
theorem ev_ite {α : Type} {c : Prop} [Decidable c] {a b : Nat → Option α} {r : α} (h : c → Ev a r) (h' : ¬ c → Ev b r) : Ev (fun k => if c then a k else b k) r:=by
 by_cases hc : c
 ·exact ev_pos hc (h hc)
 ·exact ev_neg hc (h' hc)
theorem ev_bind {α β : Type} {g : Nat → Option α} {f : Nat → α → Option β} {a : α} {r : β} (h : Ev g a) (k : Ev (fun n => f n a) r) : Ev (fun n => (g n).bind (f n)) r:=Ev.bind h k
theorem ev_some {α β : Type} {f : Nat → α → Option β} {a : α} {r : β} (k : Ev (fun n => f n a) r) : Ev (fun n => (some a).bind (f n)) r:=Ev.bind (Ev.now a) k
theorem ev_step {α : Type} {g f : Nat → Option α} {r : α} (h : ∀ k,g (k + 1) = f k) (k : Ev f r) : Ev g r:=Ev.step h k
theorem up_ind (n : Nat) (Q : Nat → Prop) (done : Q n) (step : ∀ i,i < n → Q (i + 1) → Q i) : ∀ i,i ≤ n → Q i:=by
 have key : ∀ d i,i + d = n → Q i:=by
  intro d
  induction d with
  | zero =>
   intro i h
   have e : i = n:=by omega
   rw [e]
   exact done
  | succ d ih => intro i h;exact step i (by omega) (ih (i + 1) (by omega))
 exact fun i h => key (n - i) i (by omega)
theorem getD_lt {α : Type} {l : List α} {d : α} {i : Nat} (h : i < l.length) : l.getD ((i : Int).toNat) d = l[i]:=by
 rw [Int.toNat_natCast,List.getD_eq_getElem?_getD,List.getElem?_eq_getElem h]
 rfl
theorem ev_copy {α β : Type} (F : Nat → List β → Int → Option (List β)) (cv : α → β) (l : List α) (x : List β) (hx : x.length = l.length)
  (step : ∀ (i : Nat) (h : i < l.length) (y r : List β),y.length = l.length → Ev (fun k => F k (y.set i (cv l[i])) ((i + 1 : Nat) : Int)) r → Ev (fun k => F k y (i : Int)) r)
  (done : ∀ y : List β,y.length = l.length → Ev (fun k => F k y (l.length : Int)) y) : Ev (fun k => F k x 0) (l.map cv):=by
 refine up_ind l.length (fun i => ∀ y : List β,y.length = l.length → (∀ j,j < i → y[j]? = (l.map cv)[j]?) → Ev (fun k => F k y (i : Int)) (l.map cv)) ?_ ?_ 0 (by omega) x hx (fun j hj => by omega)
 ·intro y hy h
  have e : y = l.map cv:=by
   apply List.ext_getElem?
   intro j
   by_cases hj : j < l.length
   ·exact h j hj
   ·rw [List.getElem?_eq_none (by omega),List.getElem?_eq_none (by simp;omega)]
  have d:=done y hy
  rw [e] at d ⊢
  exact d
 ·intro i hi ih y hy h
  refine step i hi y _ hy (ih _ (by simp [hy]) (fun j hj => ?_))
  by_cases e : j = i
  ·subst e
   rw [List.getElem?_set_self (by omega),List.getElem?_map,List.getElem?_eq_getElem hi]
   rfl
  ·rw [List.getElem?_set_ne (Ne.symm e)]
   exact h j (by omega)
end Go.Proofs.Ytfdbbpnmnogddaa.U
namespace Go.Proofs.Ytfdbbpnmnogddaa.U
open Go.RowKit Go.Proofs.Ytfdbbpnmnogddaa.Pr Go.Proofs.YtfdbbpnmnogddaaW.PrintWords Go.Proofs.YtfdbbpnmnogddaaW.PrintLast Go.Proofs.YtfdbbpnmnogddaaW.PrintMore
set_option linter.unusedVariables false
set_option linter.unusedSimpArgs false
abbrev Y (s : ByteArray) : List UInt8:=s.data.toList
theorem Y_eq {s : ByteArray} : s.toList = Y s:=ByteArray.toList_eq s
theorem Y_len (s : ByteArray) : (Y s).length = s.size:=Array.length_toList
theorem bt_at {s : ByteArray} {i : Nat} (h : i < s.size) : bt s (i : Int) = (((Y s)[i]'(by rw [Y_len];exact h)).toNat : Int):=by
 unfold bt
 rw [dif_pos (show ((i : Int)).toNat < s.size from by omega)]
 rfl
theorem Y_drop {s : ByteArray} {i : Nat} (h : i < s.size) : (Y s).drop i = (Y s)[i]'(by rw [Y_len];exact h) :: (Y s).drop (i + 1):=List.drop_eq_getElem_cons _
theorem Y_drop_end (s : ByteArray) : (Y s).drop s.size = []:=by rw [← Y_len,List.drop_length]
def digC (c : UInt8) : Bool:=decide (48 ≤ (c.toNat : Int)) && decide ((c.toNat : Int) ≤ 57)
def letC (c : UInt8) : Bool:=decide (97 ≤ (c.toNat : Int)) && decide ((c.toNat : Int) ≤ 122) || decide (65 ≤ (c.toNat : Int)) && decide ((c.toNat : Int) ≤ 90)
def wordC (c : UInt8) : Bool:=letC c || digC c || decide ((c.toNat : Int) = 95)
def prC (c : UInt8) : Bool:=decide (32 ≤ (c.toNat : Int)) && decide ((c.toNat : Int) ≤ 126)
def nameL (l : List UInt8) : Bool:=decide (1 ≤ l.length) && decide (l.length ≤ 40) && !(l.head?.any digC) && l.all wordC
def prL (n : Nat) (l : List UInt8) : Bool:=decide (l.length ≤ n) && l.all prC
def valL (l : List UInt8) : Bool:=decide (1 ≤ l.length) && prL 100 l
def cmpL : List UInt8 → List UInt8 → Int
 | [],[] => 0
 | [],_ :: _ => -1
 | _ :: _,[] => 1
 | a :: l,b :: m => if (a.toNat : Int) = (b.toNat : Int) then cmpL l m else if (a.toNat : Int) < (b.toNat : Int) then -1 else 1
end Go.Proofs.Ytfdbbpnmnogddaa.U
namespace Go.Proofs.Ytfdbbpnmnogddaa.U
open Go.RowKit Go.Proofs.Ytfdbbpnmnogddaa.Pr Go.Proofs.YtfdbbpnmnogddaaW.PrintWords Go.Proofs.YtfdbbpnmnogddaaW.PrintLast Go.Proofs.YtfdbbpnmnogddaaW.PrintMore
set_option linter.unusedVariables false
set_option linter.unusedSimpArgs false
def cn (a b : Int) : Int:=if a < b then -1 else if a > b then 1 else 0
theorem cmpNum_spec (a b : Int) : spec_l2CmpNum.f a b = some (cn a b):=by
 unfold spec_l2CmpNum.f cn
 by_cases h : a < b
 ·rw [if_pos h,if_pos h]
 ·rw [if_neg h,if_neg h]
  by_cases h' : a > b
  ·rw [if_pos h',if_pos h']
  ·rw [if_neg h',if_neg h']
theorem less_cmp : ∀ a b : List UInt8,Op.bytesLess a b = decide (cmpL a b < 0)
 | [],[] => rfl
 | [],_ :: _ => rfl
 | _ :: _,[] => rfl
 | a :: l,b :: m => by
  unfold Op.bytesLess cmpL
  rw [less_cmp l m]
  by_cases e : (a.toNat : Int) = (b.toNat : Int)
  ·have : a = b:=UInt8.toNat_inj.1 (by omega)
   subst this
   simp
  ·have hne : (a == b) = false:=by
    rw [beq_eq_false_iff_ne]
    rintro rfl
    exact e rfl
   rw [if_neg e,hne,Bool.false_and,Bool.or_false]
   by_cases h : (a.toNat : Int) < (b.toNat : Int)
   ·rw [if_pos h]
    have : a < b:=UInt8.lt_iff_toNat_lt.2 (by omega)
    simp [this]
   ·rw [if_neg h]
    have : ¬ a < b:=fun h' => h (by have:=UInt8.lt_iff_toNat_lt.1 h';omega)
    simp [this]
theorem cmp_spec (s t : ByteArray) (hs : s.size ≤ 9223372036854775807) (ht : t.size ≤ 9223372036854775807) : Ev (fun k => spec_l2CmpText.f k s t) (cmpL (Y s) (Y t)):=by
 refine up_ind (min s.size t.size) (fun i => Ev (fun k => spec_l2CmpText.l0 k s t (i : Int)) (cmpL ((Y s).drop i) ((Y t).drop i))) ?_ ?_ 0 (by omega)
 ·generalize hm : min s.size t.size = m
  rcases Nat.lt_or_ge m s.size with h|h
  ·have e : m = t.size:=by omega
   refine ev_step (fun _ => spec_l2CmpText.l0.eq_2 ..) (ev_pos (by omega) ?_)
   rw [decide_eq_false (by omega)]
   refine ev_step (fun _ => spec_l2CmpText.j1.eq_2 ..) (ev_neg (by decide) (ev_bind (ev_eq (cmpNum_spec _ _)) ?_))
   rw [Y_drop h,show List.drop m (Y t) = [] from by rw [e,Y_drop_end]]
   unfold cn cmpL
   rw [if_neg (by omega),if_pos (by omega)]
   exact ev_now _
  ·have e : m = s.size:=by omega
   refine ev_step (fun _ => spec_l2CmpText.l0.eq_2 ..) (ev_neg (by omega) ?_)
   refine ev_step (fun _ => spec_l2CmpText.j1.eq_2 ..) (ev_neg (by decide) (ev_bind (ev_eq (cmpNum_spec _ _)) ?_))
   rw [e,Y_drop_end]
   by_cases h2 : s.size < t.size
   ·rw [Y_drop h2]
    unfold cn cmpL
    rw [if_pos (by omega)]
    exact ev_now _
   ·have e2 : s.size = t.size:=by omega
    rw [e2,Y_drop_end]
    unfold cn cmpL
    rw [if_neg (by omega),if_neg (by omega)]
    exact ev_now _
 ·intro i h ih
  have h1 : i < s.size:=by omega
  have h2 : i < t.size:=by omega
  refine ev_step (fun _ => spec_l2CmpText.l0.eq_2 ..) (ev_pos (by omega) ?_)
  rw [decide_eq_true (by omega)]
  refine ev_step (fun _ => spec_l2CmpText.j1.eq_2 ..) (ev_pos rfl (ev_pos (by omega) (ev_pos (by omega) (ev_pos (by omega) ?_))))
  rw [bt_at h1,bt_at h2,Y_drop h1,Y_drop h2,w64n h1 hs]
  have a1:=((Y s)[i]'(by rw [Y_len];exact h1)).toNat_lt
  have a2:=((Y t)[i]'(by rw [Y_len];exact h2)).toNat_lt
  rw [w64 (x:=(((Y s)[i]'(by rw [Y_len];exact h1)).toNat : Int)) (by omega) (by omega),w64 (x:=(((Y t)[i]'(by rw [Y_len];exact h2)).toNat : Int)) (by omega) (by omega)]
  unfold cmpL
  refine ev_ite (fun h3 => ?_) (fun h3 => ?_)
  ·rw [if_pos h3]
   exact ih
  ·rw [if_neg h3]
   refine ev_bind (ev_eq (cmpNum_spec _ _)) ?_
   unfold cn
   by_cases h4 : (((Y s)[i]'(by rw [Y_len];exact h1)).toNat : Int) < (((Y t)[i]'(by rw [Y_len];exact h2)).toNat : Int)
   ·rw [if_pos h4,if_pos h4]
    exact ev_now _
   ·rw [if_neg h4,if_neg h4,if_pos (by omega)]
    exact ev_now _
end Go.Proofs.Ytfdbbpnmnogddaa.U
namespace Go.Proofs.Ytfdbbpnmnogddaa.U
open Go.RowKit Go.Proofs.Ytfdbbpnmnogddaa.Pr Go.Proofs.YtfdbbpnmnogddaaW.PrintWords Go.Proofs.YtfdbbpnmnogddaaW.PrintLast Go.Proofs.YtfdbbpnmnogddaaW.PrintMore
set_option linter.unusedVariables false
set_option linter.unusedSimpArgs false
theorem printed_spec (s : ByteArray) (hs : s.size ≤ 9223372036854775807) : Ev (fun k => spec_l2Printed.f k s) ((Y s).all prC):=by
 refine up_ind s.size (fun i => Ev (fun k => spec_l2Printed.l0 k s (i : Int)) (((Y s).drop i).all prC)) ?_ ?_ 0 (by omega)
 ·rw [Y_drop_end]
  exact ev_step (fun _ => spec_l2Printed.l0.eq_2 ..) (ev_neg (by omega) (ev_now _))
 ·intro i h ih
  refine ev_step (fun _ => spec_l2Printed.l0.eq_2 ..) (ev_pos (by omega) (ev_pos (by omega) ?_))
  rw [bt_at h,Y_drop h,List.all_cons,w64n h hs]
  unfold prC
  refine ev_ite (fun h1 => ?_) (fun h1 => ev_ite (fun h2 => ?_) (fun h2 => ?_))
  ·rw [decide_eq_false (by omega)]
   exact ev_now _
  ·rw [decide_eq_false (show ¬ _ ≤ (126 : Int) from by omega),Bool.and_false,Bool.false_and]
   exact ev_now _
  ·rw [decide_eq_true (by omega),decide_eq_true (by omega)]
   exact ih
theorem printed_impl (s : ByteArray) (hs : s.size ≤ 9223372036854775807) (n : Nat) : Ev (fun k => impl_printed.f k s (n : Int)) (prL n (Y s)):=by
 unfold impl_printed.f prL
 rw [Y_len]
 refine ev_ite (fun h => ?_) (fun h => ?_)
 ·rw [decide_eq_false (by omega)]
  exact ev_now _
 ·rw [decide_eq_true (by omega),Bool.true_and]
  refine up_ind s.size (fun i => Ev (fun k => impl_printed.l0 k s (s.size : Int) (i : Int)) (((Y s).drop i).all prC)) ?_ ?_ 0 (by omega)
  ·rw [Y_drop_end]
   exact ev_step (fun _ => impl_printed.l0.eq_2 ..) (ev_neg (by omega) (ev_now _))
  ·intro i h ih
   refine ev_step (fun _ => impl_printed.l0.eq_2 ..) (ev_pos (by omega) (ev_pos (by omega) (ev_pos (by omega) ?_)))
   rw [bt_at h,Y_drop h,List.all_cons,w64n h hs]
   unfold prC
   refine ev_ite (fun h1 => ?_) (fun h1 => ev_ite (fun h2 => ?_) (fun h2 => ?_))
   ·rw [decide_eq_false (by omega)]
    exact ev_now _
   ·rw [decide_eq_false (show ¬ _ ≤ (126 : Int) from by omega),Bool.and_false,Bool.false_and]
    exact ev_now _
   ·rw [decide_eq_true (by omega),decide_eq_true (by omega)]
    exact ih
end Go.Proofs.Ytfdbbpnmnogddaa.U
namespace Go.Proofs.Ytfdbbpnmnogddaa.U
open Go.RowKit Go.Proofs.Ytfdbbpnmnogddaa.Pr Go.Proofs.YtfdbbpnmnogddaaW.PrintWords Go.Proofs.YtfdbbpnmnogddaaW.PrintLast Go.Proofs.YtfdbbpnmnogddaaW.PrintMore
set_option linter.unusedVariables false
set_option linter.unusedSimpArgs false
theorem digit_impl (c : UInt8) : impl_digitByte.f (c.toNat : Int) = some (digC c):=by
 unfold impl_digitByte.f digC
 by_cases h : (c.toNat : Int) ≥ 48
 ·rw [if_pos h,decide_eq_true (show 48 ≤ (c.toNat : Int) from h),Bool.true_and]
 ·rw [if_neg h,decide_eq_false (show ¬ 48 ≤ (c.toNat : Int) from h),Bool.false_and]
theorem digit_spec (c : UInt8) : spec_l2Digit.f (c.toNat : Int) = some (digC c):=by
 unfold spec_l2Digit.f digC
 by_cases h : (c.toNat : Int) ≥ 48
 ·rw [if_pos h,decide_eq_true (show 48 ≤ (c.toNat : Int) from h),Bool.true_and]
 ·rw [if_neg h,decide_eq_false (show ¬ 48 ≤ (c.toNat : Int) from h),Bool.false_and]
theorem letter_impl (c : UInt8) : impl_letterByte.f (c.toNat : Int) = some (letC c):=by
 unfold impl_letterByte.f letC
 by_cases h : (c.toNat : Int) ≥ 97 <;> by_cases h1 : (c.toNat : Int) ≤ 122 <;> by_cases h2 : (c.toNat : Int) ≥ 65 <;> by_cases h3 : (c.toNat : Int) ≤ 90 <;> simp [h,h1,h2,h3] <;> omega
theorem letter_spec (c : UInt8) : spec_l2Letter.f (c.toNat : Int) = some (letC c):=by
 unfold spec_l2Letter.f letC
 by_cases h : (c.toNat : Int) ≥ 97 <;> by_cases h1 : (c.toNat : Int) ≤ 122 <;> by_cases h2 : (c.toNat : Int) ≥ 65 <;> by_cases h3 : (c.toNat : Int) ≤ 90 <;> simp [h,h1,h2,h3] <;> omega
theorem word_impl (c : UInt8) : impl_wordByte.f (c.toNat : Int) = some (wordC c):=by
 unfold impl_wordByte.f wordC
 rw [letter_impl,digit_impl]
 cases letC c <;> cases digC c <;> simp <;> rfl
theorem name_loop_impl (s : ByteArray) (hs : s.size ≤ 9223372036854775807) : Ev (fun k => impl_isName.l0 k s (s.size : Int) 0) ((Y s).all wordC):=by
 refine up_ind s.size (fun i => Ev (fun k => impl_isName.l0 k s (s.size : Int) (i : Int)) (((Y s).drop i).all wordC)) ?_ ?_ 0 (by omega)
 ·rw [Y_drop_end]
  exact ev_step (fun _ => impl_isName.l0.eq_2 ..) (ev_neg (by omega) (ev_now _))
 ·intro i h ih
  refine ev_step (fun _ => impl_isName.l0.eq_2 ..) (ev_pos (by omega) (ev_pos (by omega) (ev_pos (by omega) ?_)))
  rw [bt_at h,Y_drop h,List.all_cons,w64n h hs]
  refine ev_bind (ev_eq (word_impl _)) (ev_ite (fun h1 => ?_) (fun h1 => ?_))
  ·rw [h1]
   exact ih
  ·rw [Bool.eq_false_iff.2 h1]
   exact ev_now _
theorem name_loop_spec (s : ByteArray) (hs : s.size ≤ 9223372036854775807) : Ev (fun k => spec_l2Name.l0 k s 0) ((Y s).all wordC):=by
 refine up_ind s.size (fun i => Ev (fun k => spec_l2Name.l0 k s (i : Int)) (((Y s).drop i).all wordC)) ?_ ?_ 0 (by omega)
 ·rw [Y_drop_end]
  exact ev_step (fun _ => spec_l2Name.l0.eq_2 ..) (ev_neg (by omega) (ev_now _))
 ·intro i h ih
  refine ev_step (fun _ => spec_l2Name.l0.eq_2 ..) (ev_pos (by omega) (ev_pos (by omega) ?_))
  rw [bt_at h,Y_drop h,List.all_cons,w64n h hs]
  unfold wordC
  refine ev_bind (ev_eq (letter_spec _)) (ev_ite (fun h1 => ?_) (fun h1 => ev_bind (ev_eq (digit_spec _)) (ev_ite (fun h2 => ?_) (fun h2 => ev_ite (fun h3 => ?_) (fun h3 => ?_)))))
  ·rw [h1]
   exact ih
  ·rw [h2,Bool.or_true]
   exact ih
  ·rw [decide_eq_true h3,Bool.or_true]
   exact ih
  ·rw [Bool.eq_false_iff.2 h1,Bool.eq_false_iff.2 h2,decide_eq_false h3]
   exact ev_now _
theorem name_impl (s : ByteArray) (hs : s.size ≤ 9223372036854775807) : Ev (fun k => impl_isName.f k s) (nameL (Y s)):=by
 unfold impl_isName.f nameL
 rw [Y_eq]
 refine ev_ite (fun h => ?_) (fun h => ?_)
 ·rw [h]
  exact ev_step (fun _ => impl_isName.j0.eq_2 ..) (ev_pos rfl (ev_now _))
 ·have hl : 1 ≤ (Y s).length:=by
   cases e : Y s with
   | nil => exact absurd e h
   | cons a l => simp
  rw [decide_eq_true hl,Y_len,Bool.true_and]
  rw [Y_len] at hl
  refine ev_ite (fun h1 => ?_) (fun h1 => ev_pos (by omega) ?_)
  ·rw [decide_eq_false (by omega)]
   exact ev_step (fun _ => impl_isName.j0.eq_2 ..) (ev_pos rfl (ev_now _))
  ·rw [decide_eq_true (by omega),Bool.true_and]
   have e0:=bt_at (s:=s) (i:=0) (by omega)
   have eh : (Y s).head? = some ((Y s)[0]'(by rw [Y_len];omega)):=by rw [List.head?_eq_getElem?,List.getElem?_eq_getElem]
   rw [show bt s 0 = bt s ((0 : Nat) : Int) from rfl,e0,eh]
   refine ev_bind (ev_eq (digit_impl _)) (ev_step (fun _ => impl_isName.j0.eq_2 ..) (ev_ite (fun h2 => ?_) (fun h2 => ?_)))
   ·rw [Option.any_some,h2]
    exact ev_now _
   ·rw [Option.any_some,Bool.eq_false_iff.2 h2]
    exact name_loop_impl s hs
theorem name_spec (s : ByteArray) (hs : s.size ≤ 9223372036854775807) : Ev (fun k => spec_l2Name.f k s) (nameL (Y s)):=by
 unfold spec_l2Name.f nameL
 rw [Y_len]
 refine ev_ite (fun h => ?_) (fun h => ?_)
 ·rw [decide_eq_false (by omega)]
  exact ev_step (fun _ => spec_l2Name.j0.eq_2 ..) (ev_pos rfl (ev_now _))
 ·rw [decide_eq_true (by omega),Bool.true_and]
  refine ev_ite (fun h1 => ?_) (fun h1 => ev_pos (by omega) ?_)
  ·rw [decide_eq_false (by omega)]
   exact ev_step (fun _ => spec_l2Name.j0.eq_2 ..) (ev_pos rfl (ev_now _))
  ·rw [decide_eq_true (by omega),Bool.true_and]
   have e0:=bt_at (s:=s) (i:=0) (by omega)
   have eh : (Y s).head? = some ((Y s)[0]'(by rw [Y_len];omega)):=by rw [List.head?_eq_getElem?,List.getElem?_eq_getElem]
   rw [show bt s 0 = bt s ((0 : Nat) : Int) from rfl,e0,eh]
   refine ev_bind (ev_eq (digit_spec _)) (ev_step (fun _ => spec_l2Name.j0.eq_2 ..) (ev_ite (fun h2 => ?_) (fun h2 => ?_)))
   ·rw [Option.any_some,h2]
    exact ev_now _
   ·rw [Option.any_some,Bool.eq_false_iff.2 h2]
    exact name_loop_spec s hs
end Go.Proofs.Ytfdbbpnmnogddaa.U
namespace Go.Proofs.Ytfdbbpnmnogddaa.U
open Go.RowKit Go.Proofs.Ytfdbbpnmnogddaa.Pr Go.Proofs.YtfdbbpnmnogddaaW.PrintWords Go.Proofs.YtfdbbpnmnogddaaW.PrintLast Go.Proofs.YtfdbbpnmnogddaaW.PrintMore
set_option linter.unusedVariables false
set_option linter.unusedSimpArgs false
theorem value_spec (s : ByteArray) (hs : s.size ≤ 9223372036854775807) : Ev (fun k => spec_l2Value.f k s) (valL (Y s)):=by
 unfold spec_l2Value.f valL prL
 rw [Y_len]
 refine ev_ite (fun h => ev_ite (fun h1 => ?_) (fun h1 => ?_)) (fun h => ?_)
 ·rw [decide_eq_true (by omega),decide_eq_true (by omega),Bool.true_and,Bool.true_and]
  exact ev_bind (printed_spec s hs) (ev_now _)
 ·rw [decide_eq_false (show ¬ s.size ≤ 100 from by omega),Bool.false_and,Bool.and_false]
  exact ev_now _
 ·rw [decide_eq_false (by omega),Bool.false_and]
  exact ev_now _
theorem value_impl (s : ByteArray) (hs : s.size ≤ 9223372036854775807) : Ev (fun k => impl_isValue.f k s) (valL (Y s)):=by
 unfold impl_isValue.f valL
 rw [Y_eq,]
 refine ev_ite (fun h => ?_) (fun h => ?_)
 ·rw [h]
  exact ev_now _
 ·have : 1 ≤ (Y s).length:=by
   cases e : Y s with
   | nil => exact absurd e h
   | cons a l => simp
  rw [decide_eq_true this,Bool.true_and]
  exact ev_bind (printed_impl s hs 100) (ev_now _)
end Go.Proofs.Ytfdbbpnmnogddaa.U
namespace Go.Proofs.Ytfdbbpnmnogddaa.U
open Go.RowKit Go.Proofs.Ytfdbbpnmnogddaa.Pr Go.Proofs.YtfdbbpnmnogddaaW.PrintWords Go.Proofs.YtfdbbpnmnogddaaW.PrintLast Go.Proofs.YtfdbbpnmnogddaaW.PrintMore
set_option linter.unusedVariables false
set_option linter.unusedSimpArgs false
def before (p : Option (List UInt8)) (l : List UInt8) : Bool:=match p with
 | none => true
 | some q => decide (cmpL q l < 0)
def riseL (p : Option (List UInt8)) : List S56 → Bool
 | [] => true
 | x :: xs => nameL (Y x.f0) && valL (Y x.f1) && before p (Y x.f0) && riseL (some (Y x.f0)) xs
def goodL (l : List S56) : Bool:=decide (l.length ≤ 20) && riseL none l
def ptL (l : List S56) (i : Nat) : Option (List UInt8):=if i = 0 then none else some (Y (rd_T56 l ((i - 1 : Nat) : Int)).f0)
def fitL (l : List S56) : Prop:=l.length ≤ 9223372036854775807 ∧ ∀ x ∈ l,x.f0.size ≤ 9223372036854775807 ∧ x.f1.size ≤ 9223372036854775807
theorem goodLabels_impl_l (l : List S56) (hf : fitL l) : Ev (fun k => impl_GoodLabels.l0 k l l (l.length : Int) 0) (riseL none l):=by
 obtain ⟨hl,hw⟩:=hf
 have hrd : ∀ (i : Nat) (h : i < l.length),rd_T56 l (i : Int) = l[i]:=fun i h => getD_lt h
 refine up_ind l.length (fun i => Ev (fun k => impl_GoodLabels.l0 k l l (l.length : Int) (i : Int)) (riseL (ptL l i) (l.drop i))) ?_ ?_ 0 (by omega)
 ·rw [List.drop_length]
  exact ev_step (fun _ => impl_GoodLabels.l0.eq_2 ..) (ev_neg (by omega) (ev_now _))
 ·intro i h ih
  have hp : ptL l (i + 1) = some (Y l[i].f0):=by unfold ptL;rw [if_neg (by omega),Nat.add_sub_cancel,hrd i h]
  rw [hp] at ih
  obtain ⟨w1,w2⟩:=hw l[i] (List.getElem_mem h)
  have wi : wrap64 ((i : Int) + 1) = ((i + 1 : Nat) : Int):=w64n h hl
  refine ev_step (fun _ => impl_GoodLabels.l0.eq_2 ..) (ev_pos (by omega) (ev_pos (by omega) (ev_pos (by omega) ?_)))
  rw [hrd i h,List.drop_eq_getElem_cons h]
  simp only [riseL]
  refine ev_bind (name_impl _ w1) (ev_ite (fun h1 => ev_bind (value_impl _ w2) (ev_ite (fun h2 => ?_) (fun h2 => ?_))) (fun h1 => ?_))
  ·rw [h1,h2,Bool.true_and,Bool.true_and]
   by_cases hi : i = 0
   ·subst hi
    rw [wi]
    exact ev_neg (by omega) ih
   ·have wm : wrap64 ((i : Int) - 1) = ((i - 1 : Nat) : Int):=by rw [w64 (by omega) (by omega)];omega
    have hq : ptL l i = some (Y l[i - 1].f0):=by unfold ptL;rw [if_neg hi,hrd (i - 1) (by omega)]
    obtain ⟨w3,_⟩:=hw l[i - 1] (List.getElem_mem (by omega))
    rw [wm,hrd (i - 1) (by omega),hq,wi]
    refine ev_pos (by omega) (ev_pos (by omega) (ev_pos (by omega) ?_))
    simp only [before]
    rw [Y_eq,Y_eq,less_cmp]
    refine ev_ite (fun h3 => ?_) (fun h3 => ?_)
    ·rw [h3,Bool.true_and]
     exact ih
    ·rw [Bool.eq_false_iff.2 h3,Bool.false_and]
     exact ev_now _
  ·rw [h1,Bool.eq_false_iff.2 h2]
   exact ev_now _
  ·rw [Bool.eq_false_iff.2 h1]
   exact ev_now _
theorem goodLabels_impl (l : List S56) (hf : fitL l) : Ev (fun k => impl_GoodLabels.f k l) (goodL l):=by
 unfold impl_GoodLabels.f goodL
 refine ev_ite (fun h => ?_) (fun h => ?_)
 ·rw [decide_eq_false (by omega)]
  exact ev_now _
 ·rw [decide_eq_true (by omega),Bool.true_and]
  exact goodLabels_impl_l l hf
theorem goodLabels_spec_l (l : List S56) (hf : fitL l) : Ev (fun k => spec_GoodLabels.l0 k l l (l.length : Int) 0) (riseL none l):=by
 obtain ⟨hl,hw⟩:=hf
 have hrd : ∀ (i : Nat) (h : i < l.length),rd_T56 l (i : Int) = l[i]:=fun i h => getD_lt h
 refine up_ind l.length (fun i => Ev (fun k => spec_GoodLabels.l0 k l l (l.length : Int) (i : Int)) (riseL (ptL l i) (l.drop i))) ?_ ?_ 0 (by omega)
 ·rw [List.drop_length]
  exact ev_step (fun _ => spec_GoodLabels.l0.eq_2 ..) (ev_neg (by omega) (ev_now _))
 ·intro i h ih
  have hp : ptL l (i + 1) = some (Y l[i].f0):=by unfold ptL;rw [if_neg (by omega),Nat.add_sub_cancel,hrd i h]
  rw [hp] at ih
  obtain ⟨w1,w2⟩:=hw l[i] (List.getElem_mem h)
  have wi : wrap64 ((i : Int) + 1) = ((i + 1 : Nat) : Int):=w64n h hl
  refine ev_step (fun _ => spec_GoodLabels.l0.eq_2 ..) (ev_pos (by omega) (ev_pos (by omega) (ev_pos (by omega) ?_)))
  rw [hrd i h,List.drop_eq_getElem_cons h]
  simp only [riseL]
  refine ev_bind (name_spec _ w1) (ev_ite (fun h1 => ev_bind (value_spec _ w2) (ev_ite (fun h2 => ?_) (fun h2 => ?_))) (fun h1 => ?_))
  ·rw [h1,h2,Bool.true_and,Bool.true_and]
   by_cases hi : i = 0
   ·subst hi
    rw [wi]
    exact ev_neg (by omega) ih
   ·have wm : wrap64 ((i : Int) - 1) = ((i - 1 : Nat) : Int):=by rw [w64 (by omega) (by omega)];omega
    have hq : ptL l i = some (Y l[i - 1].f0):=by unfold ptL;rw [if_neg hi,hrd (i - 1) (by omega)]
    obtain ⟨w3,_⟩:=hw l[i - 1] (List.getElem_mem (by omega))
    rw [wm,hrd (i - 1) (by omega),hq,wi]
    refine ev_pos (by omega) (ev_pos (by omega) (ev_pos (by omega) ?_))
    simp only [before]
    refine ev_bind (cmp_spec _ _ w3 w1) (ev_ite (fun h3 => ?_) (fun h3 => ?_))
    ·rw [decide_eq_false (by omega),Bool.false_and]
     exact ev_now _
    ·rw [decide_eq_true (by omega),Bool.true_and]
     exact ih
  ·rw [h1,Bool.eq_false_iff.2 h2]
   exact ev_now _
  ·rw [Bool.eq_false_iff.2 h1]
   exact ev_now _
theorem goodLabels_spec (l : List S56) (hf : fitL l) : Ev (fun k => spec_GoodLabels.f k l) (goodL l):=by
 unfold spec_GoodLabels.f goodL
 refine ev_ite (fun h => ?_) (fun h => ?_)
 ·rw [decide_eq_false (by omega)]
  exact ev_now _
 ·rw [decide_eq_true (by omega),Bool.true_and]
  exact goodLabels_spec_l l hf
end Go.Proofs.Ytfdbbpnmnogddaa.U
namespace Go.Proofs.Ytfdbbpnmnogddaa.U
open Go.RowKit Go.Proofs.Ytfdbbpnmnogddaa.Pr Go.Proofs.YtfdbbpnmnogddaaW.PrintWords Go.Proofs.YtfdbbpnmnogddaaW.PrintLast Go.Proofs.YtfdbbpnmnogddaaW.PrintMore
set_option linter.unusedVariables false
set_option linter.unusedSimpArgs false
theorem cmpL_neg : ∀ a b : List UInt8,cmpL b a = - cmpL a b
 | [],[] => rfl
 | [],_ :: _ => rfl
 | _ :: _,[] => rfl
 | a :: l,b :: m => by
  simp only [cmpL]
  by_cases e : (a.toNat : Int) = (b.toNat : Int)
  ·rw [if_pos e,if_pos e.symm]
   exact cmpL_neg l m
  ·rw [if_neg e,if_neg (fun h => e h.symm)]
   by_cases h : (a.toNat : Int) < (b.toNat : Int)
   ·rw [if_pos h,if_neg (by omega)]
    rfl
   ·rw [if_neg h,if_pos (by omega)]
theorem cmpL_cases : ∀ a b : List UInt8,cmpL a b = -1 ∨ cmpL a b = 0 ∨ cmpL a b = 1
 | [],[] => .inr (.inl rfl)
 | [],_ :: _ => .inl rfl
 | _ :: _,[] => .inr (.inr rfl)
 | a :: l,b :: m => by
  simp only [cmpL]
  by_cases e : (a.toNat : Int) = (b.toNat : Int)
  ·rw [if_pos e]
   exact cmpL_cases l m
  ·rw [if_neg e]
   by_cases h : (a.toNat : Int) < (b.toNat : Int)
   ·rw [if_pos h]
    exact .inl rfl
   ·rw [if_neg h]
    exact .inr (.inr rfl)
def cmpLL : List S56 → List S56 → Int
 | [],[] => 0
 | [],_ :: _ => -1
 | _ :: _,[] => 1
 | x :: xs,y :: ys => if cmpL (Y x.f0) (Y y.f0) = 0 then (if cmpL (Y x.f1) (Y y.f1) = 0 then cmpLL xs ys else cmpL (Y x.f1) (Y y.f1)) else cmpL (Y x.f0) (Y y.f0)
theorem cmpLL_spec (l m : List S56) (hl : fitL l) (hm : fitL m) : Ev (fun k => spec_l2Cmp.f k l m) (cmpLL l m):=by
 have hrd : ∀ (l : List S56) (i : Nat) (h : i < l.length),rd_T56 l (i : Int) = l[i]:=fun l i h => getD_lt h
 refine up_ind (min l.length m.length) (fun i => Ev (fun k => spec_l2Cmp.l0 k l m (i : Int)) (cmpLL (l.drop i) (m.drop i))) ?_ ?_ 0 (by omega)
 ·generalize hq : min l.length m.length = q
  rcases Nat.lt_or_ge q l.length with h|h
  ·have e : q = m.length:=by omega
   refine ev_step (fun _ => spec_l2Cmp.l0.eq_2 ..) (ev_pos (by omega) ?_)
   rw [decide_eq_false (by omega)]
   refine ev_step (fun _ => spec_l2Cmp.j1.eq_2 ..) (ev_neg (by decide) (ev_bind (ev_eq (cmpNum_spec _ _)) ?_))
   rw [List.drop_eq_getElem_cons h,show m.drop q = [] from by rw [e,List.drop_length]]
   unfold cn cmpLL
   rw [if_neg (by omega),if_pos (by omega)]
   exact ev_now _
  ·have e : q = l.length:=by omega
   refine ev_step (fun _ => spec_l2Cmp.l0.eq_2 ..) (ev_neg (by omega) ?_)
   refine ev_step (fun _ => spec_l2Cmp.j1.eq_2 ..) (ev_neg (by decide) (ev_bind (ev_eq (cmpNum_spec _ _)) ?_))
   rw [e,List.drop_length]
   by_cases h2 : l.length < m.length
   ·rw [List.drop_eq_getElem_cons h2]
    unfold cn cmpLL
    rw [if_pos (by omega)]
    exact ev_now _
   ·have e2 : l.length = m.length:=by omega
    rw [e2,List.drop_length]
    unfold cn cmpLL
    rw [if_neg (by omega),if_neg (by omega)]
    exact ev_now _
 ·intro i h ih
  have h1 : i < l.length:=by omega
  have h2 : i < m.length:=by omega
  obtain ⟨a1,a2⟩:=hl.2 l[i] (List.getElem_mem h1)
  obtain ⟨b1,b2⟩:=hm.2 m[i] (List.getElem_mem h2)
  refine ev_step (fun _ => spec_l2Cmp.l0.eq_2 ..) (ev_pos (by omega) ?_)
  rw [decide_eq_true (by omega)]
  refine ev_step (fun _ => spec_l2Cmp.j1.eq_2 ..) (ev_pos rfl (ev_pos (by omega) (ev_pos (by omega) (ev_pos (by omega) ?_))))
  rw [hrd l i h1,hrd m i h2,List.drop_eq_getElem_cons h1,List.drop_eq_getElem_cons h2,w64n h1 hl.1]
  simp only [cmpLL]
  refine ev_bind (cmp_spec _ _ a1 b1) (ev_ite (fun h3 => ev_bind (cmp_spec _ _ a2 b2) (ev_ite (fun h4 => ?_) (fun h4 => ?_))) (fun h3 => ?_))
  ·rw [if_pos h3,if_pos h4]
   exact ih
  ·rw [if_pos h3,if_neg h4]
   exact ev_now _
  ·rw [if_neg h3]
   exact ev_now _
theorem compare_str (a b : ByteArray) : cmp_Compare_string.f a b = some (cmpL (Y a) (Y b)):=by
 unfold cmp_Compare_string.f cmp_isNaN_string.f
 simp only [bne_self_eq_false,Option.bind_some]
 rw [if_neg (by decide),if_neg (by decide),Y_eq,Y_eq,less_cmp,less_cmp,cmpL_neg (Y a) (Y b)]
 rcases cmpL_cases (Y a) (Y b) with h|h|h <;> rw [h] <;> rfl
theorem compare_int (a b : Int) : cmp_Compare_int.f a b = some (cn a b):=by
 unfold cmp_Compare_int.f cmp_isNaN_int.f cn
 simp only [bne_self_eq_false,Option.bind_some]
 rw [if_neg (by decide),if_neg (by decide)]
 by_cases h : a < b
 ·rw [if_pos h,if_pos h]
 ·rw [if_neg h,if_neg h]
  by_cases h' : a > b
  ·rw [if_pos h',if_pos h']
  ·rw [if_neg h',if_neg h']
theorem or_two (a b : Int) : Ev (fun k => cmp_Or_int.f k [a,b]) (if a = 0 then b else a):=by
 unfold cmp_Or_int.f
 refine ev_step (fun _ => cmp_Or_int.l0.eq_2 ..) (ev_pos (by simp) (ev_pos (by simp) (ev_pos (by simp) ?_)))
 rw [show rd [a,b] 0 = a from rfl]
 refine ev_ite (fun h => ?_) (fun h => ?_)
 ·rw [if_pos h,show wrap64 (0 + 1) = 1 from (w64 (by omega) (by omega)).trans (by omega)]
  refine ev_step (fun _ => cmp_Or_int.l0.eq_2 ..) (ev_pos (by simp) (ev_pos (by simp) (ev_pos (by simp) ?_)))
  rw [show rd [a,b] 1 = b from rfl]
  refine ev_ite (fun h => ?_) (fun h => ev_now _)
  rw [h,show wrap64 (1 + 1) = 2 from (w64 (by omega) (by omega)).trans (by omega)]
  exact ev_step (fun _ => cmp_Or_int.l0.eq_2 ..) (ev_neg (by simp) (ev_now _))
 ·rw [if_neg h]
  exact ev_now _
theorem cmpLL_impl (l m : List S56) (hl : fitL l) (hm : fitL m) : Ev (fun k => impl_compare.f k l m) (cmpLL l m):=by
 have hrd : ∀ (l : List S56) (i : Nat) (h : i < l.length),rd_T56 l (i : Int) = l[i]:=fun l i h => getD_lt h
 unfold impl_compare.f
 rw [show mn (l.length : Int) (m.length : Int) = ((min l.length m.length : Nat) : Int) from by unfold mn;split <;> omega]
 refine up_ind (min l.length m.length) (fun i => Ev (fun k => impl_compare.l0 k l m ((min l.length m.length : Nat) : Int) (i : Int)) (cmpLL (l.drop i) (m.drop i))) ?_ ?_ 0 (by omega)
 ·generalize hq : min l.length m.length = q
  refine ev_step (fun _ => impl_compare.l0.eq_2 ..) (ev_neg (by omega) (ev_bind (ev_eq (compare_int _ _)) ?_))
  rcases Nat.lt_or_ge q l.length with h|h
  ·have e : q = m.length:=by omega
   rw [List.drop_eq_getElem_cons h,show m.drop q = [] from by rw [e,List.drop_length]]
   unfold cn cmpLL
   rw [if_neg (by omega),if_pos (by omega)]
   exact ev_now _
  ·have e : q = l.length:=by omega
   rw [e,List.drop_length]
   by_cases h2 : l.length < m.length
   ·rw [List.drop_eq_getElem_cons h2]
    unfold cn cmpLL
    rw [if_pos (by omega)]
    exact ev_now _
   ·have e2 : l.length = m.length:=by omega
    rw [e2,List.drop_length]
    unfold cn cmpLL
    rw [if_neg (by omega),if_neg (by omega)]
    exact ev_now _
 ·intro i h ih
  have h1 : i < l.length:=by omega
  have h2 : i < m.length:=by omega
  have hl1:=hl.1
  refine ev_step (fun _ => impl_compare.l0.eq_2 ..) (ev_pos (by omega) (ev_pos (by omega) (ev_pos (by omega) (ev_pos (by omega) ?_))))
  rw [hrd l i h1,hrd m i h2,List.drop_eq_getElem_cons h1,List.drop_eq_getElem_cons h2,w64n h1 hl1]
  refine ev_bind (ev_eq (compare_str _ _)) (ev_bind (ev_eq (compare_str _ _)) (ev_bind (or_two _ _) ?_))
  simp only [cmpLL]
  by_cases h3 : cmpL (Y l[i].f0) (Y m[i].f0) = 0
  ·rw [if_pos h3,if_pos h3]
   refine ev_ite (fun h4 => ?_) (fun h4 => ?_)
   ·rw [if_pos h4]
    exact ih
   ·rw [if_neg h4]
    exact ev_now _
  ·rw [if_neg h3,if_neg h3]
   exact ev_neg h3 (ev_now _)
end Go.Proofs.Ytfdbbpnmnogddaa.U
namespace Go.Proofs.Ytfdbbpnmnogddaa.U
open Go.RowKit Go.Proofs.Ytfdbbpnmnogddaa.Pr Go.Proofs.YtfdbbpnmnogddaaW.PrintWords Go.Proofs.YtfdbbpnmnogddaaW.PrintLast Go.Proofs.YtfdbbpnmnogddaaW.PrintMore
set_option linter.unusedVariables false
set_option linter.unusedSimpArgs false
def ofL (n : ByteArray) : List S56 → ByteArray
 | [] => ⟨#[]⟩
 | x :: xs => if Y x.f0 = Y n then x.f1 else ofL n xs
end Go.Proofs.Ytfdbbpnmnogddaa.U
namespace Go.Proofs.Ytfdbbpnmnogddaa.U
open Go.RowKit Go.Proofs.Ytfdbbpnmnogddaa.Pr Go.Proofs.YtfdbbpnmnogddaaW.PrintWords Go.Proofs.YtfdbbpnmnogddaaW.PrintLast Go.Proofs.YtfdbbpnmnogddaaW.PrintMore
set_option linter.unusedVariables false
set_option linter.unusedSimpArgs false
theorem of_impl (l : List S56) (hl : l.length ≤ 9223372036854775807) (n : ByteArray) : Ev (fun k => impl_valueOf.f k l n) (ofL n l):=by
 have hrd : ∀ (i : Nat) (h : i < l.length),rd_T56 l (i : Int) = l[i]:=fun i h => getD_lt h
 refine up_ind l.length (fun i => Ev (fun k => impl_valueOf.l0 k n l (l.length : Int) (i : Int)) (ofL n (l.drop i))) ?_ ?_ 0 (by omega)
 ·rw [List.drop_length]
  exact ev_step (fun _ => impl_valueOf.l0.eq_2 ..) (ev_neg (by omega) (ev_now _))
 ·intro i h ih
  refine ev_step (fun _ => impl_valueOf.l0.eq_2 ..) (ev_pos (by omega) (ev_pos (by omega) (ev_pos (by omega) ?_)))
  rw [hrd i h,List.drop_eq_getElem_cons h,w64n h hl,Y_eq,Y_eq]
  simp only [ofL]
  refine ev_ite (fun h1 => ?_) (fun h1 => ?_)
  ·rw [if_pos h1]
   exact ev_now _
  ·rw [if_neg h1]
   exact ih
end Go.Proofs.Ytfdbbpnmnogddaa.U
namespace Go.Proofs.Ytfdbbpnmnogddaa.U
open Go.RowKit Go.Proofs.Ytfdbbpnmnogddaa.Pr Go.Proofs.YtfdbbpnmnogddaaW.PrintWords Go.Proofs.YtfdbbpnmnogddaaW.PrintLast Go.Proofs.YtfdbbpnmnogddaaW.PrintMore
set_option linter.unusedVariables false
set_option linter.unusedSimpArgs false
theorem of_spec (l : List S56) (hl : l.length ≤ 9223372036854775807) (n : ByteArray) : Ev (fun k => spec_l2Of.f k l n) (ofL n l):=by
 have hrd : ∀ (i : Nat) (h : i < l.length),rd_T56 l (i : Int) = l[i]:=fun i h => getD_lt h
 refine up_ind l.length (fun i => Ev (fun k => spec_l2Of.l0 k n l (l.length : Int) (i : Int)) (ofL n (l.drop i))) ?_ ?_ 0 (by omega)
 ·rw [List.drop_length]
  exact ev_step (fun _ => spec_l2Of.l0.eq_2 ..) (ev_neg (by omega) (ev_now _))
 ·intro i h ih
  refine ev_step (fun _ => spec_l2Of.l0.eq_2 ..) (ev_pos (by omega) (ev_pos (by omega) (ev_pos (by omega) ?_)))
  rw [hrd i h,List.drop_eq_getElem_cons h,w64n h hl,Y_eq,Y_eq]
  simp only [ofL]
  refine ev_ite (fun h1 => ?_) (fun h1 => ?_)
  ·rw [if_pos h1]
   exact ev_now _
  ·rw [if_neg h1]
   exact ih
end Go.Proofs.Ytfdbbpnmnogddaa.U
namespace Go.Proofs.Ytfdbbpnmnogddaa.U
open Go.RowKit Go.Proofs.Ytfdbbpnmnogddaa.Pr Go.Proofs.YtfdbbpnmnogddaaW.PrintWords Go.Proofs.YtfdbbpnmnogddaaW.PrintLast Go.Proofs.YtfdbbpnmnogddaaW.PrintMore
set_option linter.unusedVariables false
set_option linter.unusedSimpArgs false
def incS (lo : Int) : List S103 → Bool
 | [] => true
 | x :: xs => decide (0 ≤ x.f0) && decide (x.f0 ≤ 1000000000000) && decide (lo < x.f0) && incS x.f0 xs
def goodS (l : List S103) : Bool:=decide (l.length ≤ 2000) && incS (-1) l
def ptS (l : List S103) (i : Nat) : Int:=if i = 0 then -1 else (rd_T103 l ((i - 1 : Nat) : Int)).f0
theorem isTime_yes {x : Int} (h : 0 ≤ x ∧ x ≤ 1000000000000) : impl_isTime.f x = some true ∧ spec_l3Time.f x = some true:=by
 unfold impl_isTime.f spec_l3Time.f
 rw [if_pos h.1,decide_eq_true h.2]
 exact ⟨rfl,rfl⟩
theorem isTime_no {x : Int} (h : ¬ (0 ≤ x ∧ x ≤ 1000000000000)) : impl_isTime.f x = some false ∧ spec_l3Time.f x = some false:=by
 unfold impl_isTime.f spec_l3Time.f
 by_cases h0 : x ≥ 0
 ·rw [if_pos h0,decide_eq_false (by omega)]
  exact ⟨rfl,rfl⟩
 ·rw [if_neg h0]
  exact ⟨rfl,rfl⟩
theorem gs_impl (l : List S103) (hl : l.length ≤ 9223372036854775807) : ∀ i,i ≤ l.length → Ev (fun k => impl_GoodSamples.l0 k l l (l.length : Int) (i : Int)) ((incS (ptS l i) (l.drop i))):=by
 have hrd : ∀ (i : Nat) (h : i < l.length),rd_T103 l (i : Int) = l[i]:=fun i h => getD_lt h
 refine up_ind l.length (fun i => Ev (fun k => impl_GoodSamples.l0 k l l (l.length : Int) (i : Int)) ((incS (ptS l i) (l.drop i)))) ?_ ?_
 ·rw [List.drop_length]
  refine ev_step (fun _ => impl_GoodSamples.l0.eq_2 ..) (ev_neg (by omega) ?_)
  exact ev_now _
 ·intro i h ih
  have hp : ptS l (i + 1) = l[i].f0:=by unfold ptS;rw [if_neg (by omega),Nat.add_sub_cancel,hrd i h]
  rw [hp] at ih
  have wi : wrap64 ((i : Int) + 1) = ((i + 1 : Nat) : Int):=w64n h hl
  refine ev_step (fun _ => impl_GoodSamples.l0.eq_2 ..) (ev_pos (by omega) (ev_pos (by omega) (ev_pos (by omega) ?_)))
  rw [hrd i h,List.drop_eq_getElem_cons h]
  by_cases ht : 0 ≤ l[i].f0 ∧ l[i].f0 ≤ 1000000000000
  ·refine ev_bind (ev_eq (isTime_yes ht).1) (ev_pos rfl ?_)
   by_cases hi : i = 0
   ·subst hi
    have e : incS (ptS l 0) (l[0] :: l.drop (0 + 1)) = incS l[0].f0 (l.drop (0 + 1)):=by simp [incS,ptS,ht];omega
    rw [e,wi]
    exact ev_neg (by omega) ih
   ·have wm : wrap64 ((i : Int) - 1) = ((i - 1 : Nat) : Int):=by rw [w64 (by omega) (by omega)];omega
    rw [wm,hrd (i - 1) (by omega)]
    refine ev_pos (by omega) (ev_pos (by omega) (ev_pos (by omega) ?_))
    have hq : ptS l i = l[i - 1].f0:=by unfold ptS;rw [if_neg hi,hrd (i - 1) (by omega)]
    rw [hq]
    by_cases hc : l[i - 1].f0 ≥ l[i].f0
    ·have e : incS l[i - 1].f0 (l[i] :: l.drop (i + 1)) = false:=by simp [incS];omega
     rw [e]
     refine ev_pos hc ?_
     exact ev_now _
    ·have e : incS l[i - 1].f0 (l[i] :: l.drop (i + 1)) = incS l[i].f0 (l.drop (i + 1)):=by simp [incS,ht];omega
     rw [e,wi]
     exact ev_neg hc ih
  ·have e : incS (ptS l i) (l[i] :: l.drop (i + 1)) = false:=by simp [incS];omega
   rw [e]
   refine ev_bind (ev_eq (isTime_no ht).1) (ev_neg (by decide) ?_)
   exact ev_now _
theorem gs_spec (l : List S103) (hl : l.length ≤ 9223372036854775807) : ∀ i,i ≤ l.length → Ev (fun k => spec_GoodSamples.l0 k l l (l.length : Int) (i : Int)) (decide (l.length ≤ 2000) && (incS (ptS l i) (l.drop i))):=by
 have hrd : ∀ (i : Nat) (h : i < l.length),rd_T103 l (i : Int) = l[i]:=fun i h => getD_lt h
 refine up_ind l.length (fun i => Ev (fun k => spec_GoodSamples.l0 k l l (l.length : Int) (i : Int)) (decide (l.length ≤ 2000) && (incS (ptS l i) (l.drop i)))) ?_ ?_
 ·rw [List.drop_length]
  refine ev_step (fun _ => spec_GoodSamples.l0.eq_2 ..) (ev_neg (by omega) ?_)
  rw [show decide ((l.length : Int) ≤ 2000) = (decide (l.length ≤ 2000) && incS (ptS l l.length) []) from by simp [incS];omega]
  exact ev_now _
 ·intro i h ih
  have hp : ptS l (i + 1) = l[i].f0:=by unfold ptS;rw [if_neg (by omega),Nat.add_sub_cancel,hrd i h]
  rw [hp] at ih
  have wi : wrap64 ((i : Int) + 1) = ((i + 1 : Nat) : Int):=w64n h hl
  refine ev_step (fun _ => spec_GoodSamples.l0.eq_2 ..) (ev_pos (by omega) (ev_pos (by omega) (ev_pos (by omega) ?_)))
  rw [hrd i h,List.drop_eq_getElem_cons h]
  by_cases ht : 0 ≤ l[i].f0 ∧ l[i].f0 ≤ 1000000000000
  ·refine ev_bind (ev_eq (isTime_yes ht).2) (ev_pos rfl ?_)
   by_cases hi : i = 0
   ·subst hi
    have e : incS (ptS l 0) (l[0] :: l.drop (0 + 1)) = incS l[0].f0 (l.drop (0 + 1)):=by simp [incS,ptS,ht];omega
    rw [e,wi]
    exact ev_neg (by omega) ih
   ·have wm : wrap64 ((i : Int) - 1) = ((i - 1 : Nat) : Int):=by rw [w64 (by omega) (by omega)];omega
    rw [wm,hrd (i - 1) (by omega)]
    refine ev_pos (by omega) (ev_pos (by omega) (ev_pos (by omega) ?_))
    have hq : ptS l i = l[i - 1].f0:=by unfold ptS;rw [if_neg hi,hrd (i - 1) (by omega)]
    rw [hq]
    by_cases hc : l[i - 1].f0 ≥ l[i].f0
    ·have e : incS l[i - 1].f0 (l[i] :: l.drop (i + 1)) = false:=by simp [incS];omega
     rw [e]
     refine ev_pos hc ?_
     rw [Bool.and_false]
     exact ev_now _
    ·have e : incS l[i - 1].f0 (l[i] :: l.drop (i + 1)) = incS l[i].f0 (l.drop (i + 1)):=by simp [incS,ht];omega
     rw [e,wi]
     exact ev_neg hc ih
  ·have e : incS (ptS l i) (l[i] :: l.drop (i + 1)) = false:=by simp [incS];omega
   rw [e]
   refine ev_bind (ev_eq (isTime_no ht).2) (ev_neg (by decide) ?_)
   rw [Bool.and_false]
   exact ev_now _
theorem goodSamples_impl (l : List S103) (hl : l.length ≤ 9223372036854775807) : Ev (fun k => impl_GoodSamples.f k l) (goodS l):=by
 unfold impl_GoodSamples.f goodS
 by_cases h : l.length ≤ 2000
 ·rw [decide_eq_true h,Bool.true_and]
  exact ev_neg (by omega) (gs_impl l hl 0 (by omega))
 ·rw [decide_eq_false h,Bool.false_and]
  exact ev_pos (by omega) (ev_now _)
theorem goodSamples_spec (l : List S103) (hl : l.length ≤ 9223372036854775807) : Ev (fun k => spec_GoodSamples.f k l) (goodS l):=by
 unfold spec_GoodSamples.f
 exact gs_spec l hl 0 (by omega)
end Go.Proofs.Ytfdbbpnmnogddaa.U
namespace Go.Proofs.Ytfdbbpnmnogddaa.U
open Go.RowKit Go.Proofs.Ytfdbbpnmnogddaa.Pr Go.Proofs.YtfdbbpnmnogddaaW.PrintWords Go.Proofs.YtfdbbpnmnogddaaW.PrintLast Go.Proofs.YtfdbbpnmnogddaaW.PrintMore
set_option linter.unusedVariables false
set_option linter.unusedSimpArgs false
def sm52 (x : S52) : Prop:=x.f0.size ≤ 1048576 ∧ x.f1.size ≤ 1048576
def cv52 (x : S52) : S56:=⟨x.f0,x.f1⟩
theorem toLabel (x : S52) (hx : sm52 x) : Ev (fun _ => laws_toLabel.f x.f0 x.f1) (x.f0,x.f1):=by
 obtain ⟨h0,h1⟩:=hx
 unfold laws_toLabel.f
 exact ev_now _
theorem eqLabel (x : S56) : Ev (fun _ => laws_eqLabel.f x.f0 x.f1 x.f0 x.f1) true:=ev_eq (by simp [laws_eqLabel.f])
def sw52 (x : S52) : Prop:=(x.f0.size ≤ maxLen) ∧ (x.f1.size ≤ maxLen)
theorem szLabel (x : S52) (c : Int) (h0 : 0 ≤ c) (h1 : c ≤ 1048576) (hw : sw52 x) : ∃ r,Ev (fun _ => laws_szLabel.f x.f0 x.f1 c) r ∧ r ≤ c ∧ (0 ≤ r → sm52 x):=by
 obtain ⟨w0,w1⟩:=hw
 unfold laws_szLabel.f
 simp only [maxLen] at w0
 rw [w64 (x:=c - (x.f0.size : Int)) (by omega) (by omega)]
 by_cases n0 : c - (x.f0.size : Int) < 0
 ·exact ⟨-1,ev_pos n0 (ev_now _),by omega,fun h => absurd h (by decide)⟩
 ·skip
  simp only [maxLen] at w1
  rw [w64 (x:=(c - (x.f0.size : Int)) - (x.f1.size : Int)) (by omega) (by omega)]
  by_cases n1 : (c - (x.f0.size : Int)) - (x.f1.size : Int) < 0
  ·exact ⟨-1,ev_neg n0 (ev_pos n1 (ev_now _)),by omega,fun h => absurd h (by decide)⟩
  ·skip
   exact ⟨_,ev_neg n0 (ev_neg n1 (ev_now _)),by omega,fun _ => ⟨by omega,by omega⟩⟩
end Go.Proofs.Ytfdbbpnmnogddaa.U
namespace Go.Proofs.Ytfdbbpnmnogddaa.U
open Go.RowKit Go.Proofs.Ytfdbbpnmnogddaa.Pr Go.Proofs.YtfdbbpnmnogddaaW.PrintWords Go.Proofs.YtfdbbpnmnogddaaW.PrintLast Go.Proofs.YtfdbbpnmnogddaaW.PrintMore
set_option linter.unusedVariables false
set_option linter.unusedSimpArgs false
theorem markText_l (m : Nat) : ∀ (c : Int) (s : ByteArray),0 ≤ c → c < 10 ^ m → c ≤ 9223372036854775807 → s.size + m < 1000 → ∃ r,Ev (fun k => laws_markText.l0 k c s) r:=by
 induction m with
 | zero =>
  intro c s h0 h1 _ h2
  simp at h1
  have hs : 1 + s.size ≤ 9223372036854775807:=by omega
  exact ⟨_,ev_step (fun _ => laws_markText.l0.eq_2 ..) (ev_neg (by omega) (ev_pos hs (ev_now _)))⟩
 | succ m ih =>
  intro c s h0 h1 h1' h2
  by_cases hc : c > 0
  ·rw [Int.pow_succ] at h1
   have e : wrap64 (Int.tdiv c 10) = c / 10:=by rw [Int.tdiv_eq_ediv_of_nonneg h0,w64 (by omega) (by omega)]
   have hz : ∀ x : Int,(strOfNums [x]).size = 1:=fun x => strOfNums_size [x]
   obtain ⟨r,hr⟩:=ih (c / 10) (strOfNums [wrap64 (48 + Int.tmod c 10) % 256] ++ s) (by omega) (by generalize (10 : Int) ^ m = p at h1 ⊢;omega) (by omega) (by rw [ByteArray.size_append,hz];omega)
   refine ⟨r,ev_step (fun _ => laws_markText.l0.eq_2 ..) (ev_pos hc (ev_some (ev_pos (by rw [hz];omega) ?_)))⟩
   rw [e]
   exact hr
  ·have hs : 1 + s.size ≤ 9223372036854775807:=by omega
   exact ⟨_,ev_step (fun _ => laws_markText.l0.eq_2 ..) (ev_neg hc (ev_pos hs (ev_now _)))⟩
theorem markText (c : Int) (h0 : 0 < c) (h1 : c ≤ 9223372036854775807) : ∃ r,Ev (fun k => laws_markText.f k c) r:=by
 obtain ⟨r,hr⟩:=markText_l 19 c ⟨#[]⟩ (by omega) (Int.lt_of_le_of_lt h1 (by decide)) h1 (by decide)
 refine ⟨r,?_⟩
 unfold laws_markText.f
 exact ev_neg (by omega) hr
end Go.Proofs.Ytfdbbpnmnogddaa.U
namespace Go.Proofs.Ytfdbbpnmnogddaa.U
open Go.RowKit Go.Proofs.Ytfdbbpnmnogddaa.Pr Go.Proofs.YtfdbbpnmnogddaaW.PrintWords Go.Proofs.YtfdbbpnmnogddaaW.PrintLast Go.Proofs.YtfdbbpnmnogddaaW.PrintMore
set_option linter.unusedVariables false
set_option linter.unusedSimpArgs false
theorem toLabelS (l : List (S52)) (hl : (l.length ≤ 1048576 ∧ ∀ y ∈ l,sm52 y)) : Ev (fun k => laws_toLabelS.f k l) (l.map cv52):=by
 obtain ⟨hl,hs⟩:=hl
 unfold laws_toLabelS.f
 repeat (first|(with_reducible refine ev_pos (by first|omega|rfl|decide) ?_)|(with_reducible refine ev_neg (by first|omega|decide) ?_))
 have key:=ev_copy (F:=fun k y i => laws_toLabelS.l0 k l y i) cv52 l (List.replicate ((l.length : Int) : Int).toNat z56) (by simp) ?step ?done
 case step =>
  intro i h y r hy hr
  refine ev_step (fun _ => laws_toLabelS.l0.eq_2 ..) ?_
  repeat (first|(with_reducible refine ev_pos (by first|omega|rfl|decide) ?_)|(with_reducible refine ev_neg (by first|omega|decide) ?_))
  rw [(show rd_T52 l (i : Int) = l[i] from getD_lt h)]
  refine ev_bind (toLabel l[i] (hs _ (List.getElem_mem h))) ?_
  repeat (first|(with_reducible refine ev_pos (by first|omega|rfl|decide) ?_)|(with_reducible refine ev_neg (by first|omega|decide) ?_))
  rw [w64n h (by omega),Int.toNat_natCast]
  exact hr
 case done =>
  intro y hy
  refine ev_step (fun _ => laws_toLabelS.l0.eq_2 ..) ?_
  repeat (first|(with_reducible refine ev_pos (by first|omega|rfl|decide) ?_)|(with_reducible refine ev_neg (by first|omega|decide) ?_))
  exact ev_now _
 exact key
theorem eqLabelS (l : List (S56)) (hl : l.length ≤ 1048576) : Ev (fun k => laws_eqLabelS.f k l l) true:=by
 unfold laws_eqLabelS.f
 refine ev_pos rfl ?_
 refine up_ind l.length (fun i => Ev (fun k => laws_eqLabelS.l0 k l l (i : Int)) true) ?_ ?_ 0 (by omega)
 ·refine ev_step (fun _ => laws_eqLabelS.l0.eq_2 ..) ?_
  refine ev_neg (by omega) ?_
  exact ev_now _
 ·intro i h ih
  refine ev_step (fun _ => laws_eqLabelS.l0.eq_2 ..) ?_
  repeat (first|(with_reducible refine ev_pos (by first|omega|rfl|decide) ?_)|(with_reducible refine ev_neg (by first|omega|decide) ?_))
  refine ev_bind (eqLabel _) ?_
  refine ev_pos rfl ?_
  rw [w64n h (by omega)]
  exact ih
theorem szLabelS (l : List (S52)) (c : Int) (h0 : 0 ≤ c) (h1 : c ≤ 1048576) (hl : l.length ≤ maxLen) (hw : ∀ x ∈ l,sw52 x) : ∃ r,Ev (fun k => laws_szLabelS.f k l c) r ∧ r ≤ c ∧ (0 ≤ r → (l.length ≤ 1048576 ∧ ∀ y ∈ l,sm52 y)):=by
 simp only [maxLen] at hl
 unfold laws_szLabelS.f
 rw [w64 (x:=c - (l.length : Int)) (by omega) (by omega)]
 by_cases hn : c - (l.length : Int) < 0
 ·exact ⟨-1,ev_pos hn (ev_now _),by omega,fun h => absurd h (by decide)⟩
 ·have key:=up_ind l.length (fun i => ∀ c : Int,0 ≤ c → c ≤ 1048576 → ∃ r,Ev (fun k => laws_szLabelS.l0 k l c (i : Int)) r ∧ r ≤ c ∧ (0 ≤ r → ∀ j (h : j < l.length),i ≤ j → sm52 l[j])) ?d ?s 0 (by omega) (c - (l.length : Int)) (by omega) (by omega)
  case d => exact fun c h0 h1 => ⟨c,ev_step (fun _ => laws_szLabelS.l0.eq_2 ..) (ev_neg (by omega) (ev_now _)),Int.le_refl _,fun _ j h hj => by omega⟩
  case s =>
   intro i h ih c h0 h1
   obtain ⟨r1,e1,hr1,hs1⟩:=szLabel l[i] c h0 h1 (hw _ (List.getElem_mem h))
   by_cases hr : r1 < 0
   ·refine ⟨-1,ev_step (fun _ => laws_szLabelS.l0.eq_2 ..) ?_,by omega,fun h => absurd h (by decide)⟩
    repeat (first|(with_reducible refine ev_pos (by first|omega|rfl|decide) ?_)|(with_reducible refine ev_neg (by first|omega|decide) ?_))
    rw [(show rd_T52 l (i : Int) = l[i] from getD_lt h)]
    exact ev_bind e1 (ev_pos hr (ev_now _))
   ·obtain ⟨r,e,hrc,hs⟩:=ih (r1) (by omega) (by omega)
    refine ⟨r,ev_step (fun _ => laws_szLabelS.l0.eq_2 ..) ?_,by omega,fun h2 j hj hij => ?_⟩
    ·repeat (first|(with_reducible refine ev_pos (by first|omega|rfl|decide) ?_)|(with_reducible refine ev_neg (by first|omega|decide) ?_))
     rw [(show rd_T52 l (i : Int) = l[i] from getD_lt h)]
     refine ev_bind e1 (ev_neg hr ?_)
     rw [w64n h (by omega)]
     exact e
    ·by_cases ej : j = i
     ·subst ej
      exact hs1 (by omega)
     ·exact hs h2 j hj (by omega)
  obtain ⟨r,e,hrc,hs⟩:=key
  refine ⟨r,ev_neg hn e,by omega,fun h => ⟨by omega,fun y hy => ?_⟩⟩
  obtain ⟨j,hj,rfl⟩:=List.getElem_of_mem hy
  exact hs h j hj (by omega)
theorem markLabelS (l : List (S56)) (hl : l.length ≤ 1048576) (c : Int) (h0 : 0 < c) (h1 : c ≤ 4611686018427387904) : ∃ y c',Ev (fun k => laws_markLabelS.f k l c) (c',y) ∧ Ev (fun k => laws_heldLabelS.f k y c) c' ∧ c ≤ c' ∧ c' ≤ c + 2 * l.length:=by
 have key:=up_ind l.length (fun i => ∀ (x : List (S56)) (c : Int),x.length = l.length → 0 < c → c + 2 * (l.length - i : Nat) ≤ 9000000000000000000 → ∃ y c',Ev (fun k => laws_markLabelS.l0 k x c (i : Int)) (c',y) ∧ Ev (fun k => laws_heldLabelS.l0 k y c (i : Int)) c' ∧ y.length = l.length ∧ (∀ j,j < i → y[j]? = x[j]?) ∧ c ≤ c' ∧ c' ≤ c + 2 * (l.length - i : Nat)) ?d ?s 0 (by omega) l c rfl h0 (by omega)
 case d =>
  intro x c hx h0 h1
  refine ⟨x,c,ev_step (fun _ => laws_markLabelS.l0.eq_2 ..) (ev_neg (by omega) (ev_now _)),ev_step (fun _ => laws_heldLabelS.l0.eq_2 ..) (ev_neg (by omega) (ev_now _)),hx,fun _ _ => rfl,by omega,by omega⟩
 case s =>
  intro i h ih x c hx h0 h1
  obtain ⟨s0,es0⟩:=markText (c) (by omega) (by omega)
  obtain ⟨s1,es1⟩:=markText (c + 1) (by omega) (by omega)
  have w1 : wrap64 (c + 1) = c + 1:=(w64 (by omega) (by omega)).trans (by omega)
  have w2 : wrap64 ((c + 1) + 1) = c + 2:=(w64 (by omega) (by omega)).trans (by omega)
  have wi : wrap64 ((i : Int) + 1) = ((i + 1 : Nat) : Int):=w64n h (by omega)
  have hset : ∀ a,rd_T56 (x.set i a) (i : Int) = a:=fun a => by rw [show rd_T56 (x.set i a) (i : Int) = (x.set i a)[i]'(by simp;omega) from getD_lt (by simp;omega)];simp
  obtain ⟨y,c',e1,e2,hy,hj,q1,q2⟩:=ih (x.set i ⟨s0,s1⟩) (c + 2) (by simp [hx]) (by omega) (by omega)
  refine ⟨y,c',ev_step (fun _ => laws_markLabelS.l0.eq_2 ..) ?_,ev_step (fun _ => laws_heldLabelS.l0.eq_2 ..) ?_,hy,fun j h' => ?_,by omega,by omega⟩
  ·simp only [w1,w2,wi,Int.toNat_natCast]
   repeat (first|(with_reducible refine ev_pos (by first|omega|rfl|decide) ?_)|(with_reducible refine ev_some ?_)|(with_reducible refine ev_bind es0 ?_)|(with_reducible refine ev_bind es1 ?_))
   simp only [hset,List.set_set]
   exact e1
  ·have ey : rd_T56 y (i : Int) = ⟨s0,s1⟩:=by
    have:=hj i (by omega)
    rw [List.getElem?_set_self (by omega),List.getElem?_eq_getElem (by omega)] at this
    rw [show rd_T56 y (i : Int) = y[i]'(by omega) from getD_lt (by omega)]
    exact Option.some.inj this
   simp only [ey,w1,w2,wi]
   repeat (first|(with_reducible refine ev_pos (by first|omega|rfl|decide) ?_)|(with_reducible refine ev_bind es0 ?_)|(with_reducible refine ev_bind es1 ?_))
   exact e2
  ·rw [hj j (by omega),List.getElem?_set_ne (by omega)]
 obtain ⟨y,c',e1,e2,_,_,q1,q2⟩:=key
 exact ⟨y,c',e1,e2,q1,by omega⟩
end Go.Proofs.Ytfdbbpnmnogddaa.U
namespace Go.Proofs.Ytfdbbpnmnogddaa.U
open Go.RowKit Go.Proofs.Ytfdbbpnmnogddaa.Pr Go.Proofs.YtfdbbpnmnogddaaW.PrintWords Go.Proofs.YtfdbbpnmnogddaaW.PrintLast Go.Proofs.YtfdbbpnmnogddaaW.PrintMore
set_option linter.unusedVariables false
set_option linter.unusedSimpArgs false
def cv116 (x : S116) : S103:=⟨x.f0,x.f1⟩
theorem toSample (x : S116) : Ev (fun _ => laws_toSample.f x.f0 x.f1) (x.f0,x.f1):=by
 unfold laws_toSample.f
 exact ev_now _
theorem eqSample (x : S103) : Ev (fun _ => laws_eqSample.f x.f0 x.f1 x.f0 x.f1) true:=ev_eq (by simp [laws_eqSample.f])
end Go.Proofs.Ytfdbbpnmnogddaa.U
namespace Go.Proofs.Ytfdbbpnmnogddaa.U
open Go.RowKit Go.Proofs.Ytfdbbpnmnogddaa.Pr Go.Proofs.YtfdbbpnmnogddaaW.PrintWords Go.Proofs.YtfdbbpnmnogddaaW.PrintLast Go.Proofs.YtfdbbpnmnogddaaW.PrintMore
set_option linter.unusedVariables false
set_option linter.unusedSimpArgs false
theorem toSampleS (l : List (S116)) (hl : l.length ≤ 1048576) : Ev (fun k => laws_toSampleS.f k l) (l.map cv116):=by
 unfold laws_toSampleS.f
 repeat (first|(with_reducible refine ev_pos (by first|omega|rfl|decide) ?_)|(with_reducible refine ev_neg (by first|omega|decide) ?_))
 have key:=ev_copy (F:=fun k y i => laws_toSampleS.l0 k l y i) cv116 l (List.replicate ((l.length : Int) : Int).toNat z103) (by simp) ?step ?done
 case step =>
  intro i h y r hy hr
  refine ev_step (fun _ => laws_toSampleS.l0.eq_2 ..) ?_
  repeat (first|(with_reducible refine ev_pos (by first|omega|rfl|decide) ?_)|(with_reducible refine ev_neg (by first|omega|decide) ?_))
  rw [(show rd_T116 l (i : Int) = l[i] from getD_lt h)]
  refine ev_bind (toSample l[i] ) ?_
  repeat (first|(with_reducible refine ev_pos (by first|omega|rfl|decide) ?_)|(with_reducible refine ev_neg (by first|omega|decide) ?_))
  rw [w64n h (by omega),Int.toNat_natCast]
  exact hr
 case done =>
  intro y hy
  refine ev_step (fun _ => laws_toSampleS.l0.eq_2 ..) ?_
  repeat (first|(with_reducible refine ev_pos (by first|omega|rfl|decide) ?_)|(with_reducible refine ev_neg (by first|omega|decide) ?_))
  exact ev_now _
 exact key
theorem eqSampleS (l : List (S103)) (hl : l.length ≤ 1048576) : Ev (fun k => laws_eqSampleS.f k l l) true:=by
 unfold laws_eqSampleS.f
 refine ev_pos rfl ?_
 refine up_ind l.length (fun i => Ev (fun k => laws_eqSampleS.l0 k l l (i : Int)) true) ?_ ?_ 0 (by omega)
 ·refine ev_step (fun _ => laws_eqSampleS.l0.eq_2 ..) ?_
  refine ev_neg (by omega) ?_
  exact ev_now _
 ·intro i h ih
  refine ev_step (fun _ => laws_eqSampleS.l0.eq_2 ..) ?_
  repeat (first|(with_reducible refine ev_pos (by first|omega|rfl|decide) ?_)|(with_reducible refine ev_neg (by first|omega|decide) ?_))
  refine ev_bind (eqSample _) ?_
  refine ev_pos rfl ?_
  rw [w64n h (by omega)]
  exact ih
theorem szSampleS (l : List (S116)) (c : Int) (h0 : 0 ≤ c) (h1 : c ≤ 1048576) (hl : l.length ≤ maxLen)  : ∃ r,Ev (fun _ => laws_szSampleS.f l c) r ∧ r ≤ c ∧ (0 ≤ r → l.length ≤ 1048576):=by
 simp only [maxLen] at hl
 unfold laws_szSampleS.f
 rw [w64 (x:=c - (l.length : Int)) (by omega) (by omega)]
 by_cases hn : c - (l.length : Int) < 0
 ·exact ⟨-1,ev_pos hn (ev_now _),by omega,fun h => absurd h (by decide)⟩
 ·exact ⟨_,ev_neg hn (ev_now _),by omega,fun _ => by omega⟩
theorem markSampleS (l : List (S103)) (hl : l.length ≤ 1048576) (c : Int) (h0 : 0 < c) (h1 : c ≤ 4611686018427387904) : ∃ y c',Ev (fun k => laws_markSampleS.f k l c) (c',y) ∧ Ev (fun k => laws_heldSampleS.f k y c) c' ∧ c ≤ c' ∧ c' ≤ c + 2 * l.length:=by
 have key:=up_ind l.length (fun i => ∀ (x : List (S103)) (c : Int),x.length = l.length → 0 < c → c + 2 * (l.length - i : Nat) ≤ 9000000000000000000 → ∃ y c',Ev (fun k => laws_markSampleS.l0 k x c (i : Int)) (c',y) ∧ Ev (fun k => laws_heldSampleS.l0 k y c (i : Int)) c' ∧ y.length = l.length ∧ (∀ j,j < i → y[j]? = x[j]?) ∧ c ≤ c' ∧ c' ≤ c + 2 * (l.length - i : Nat)) ?d ?s 0 (by omega) l c rfl h0 (by omega)
 case d =>
  intro x c hx h0 h1
  refine ⟨x,c,ev_step (fun _ => laws_markSampleS.l0.eq_2 ..) (ev_neg (by omega) (ev_now _)),ev_step (fun _ => laws_heldSampleS.l0.eq_2 ..) (ev_neg (by omega) (ev_now _)),hx,fun _ _ => rfl,by omega,by omega⟩
 case s =>
  intro i h ih x c hx h0 h1
  have w1 : wrap64 (c + 1) = c + 1:=(w64 (by omega) (by omega)).trans (by omega)
  have w2 : wrap64 ((c + 1) + 1) = c + 2:=(w64 (by omega) (by omega)).trans (by omega)
  have wi : wrap64 ((i : Int) + 1) = ((i + 1 : Nat) : Int):=w64n h (by omega)
  have hset : ∀ a,rd_T103 (x.set i a) (i : Int) = a:=fun a => by rw [show rd_T103 (x.set i a) (i : Int) = (x.set i a)[i]'(by simp;omega) from getD_lt (by simp;omega)];simp
  obtain ⟨y,c',e1,e2,hy,hj,q1,q2⟩:=ih (x.set i ⟨c,(c + 1)⟩) (c + 2) (by simp [hx]) (by omega) (by omega)
  refine ⟨y,c',ev_step (fun _ => laws_markSampleS.l0.eq_2 ..) ?_,ev_step (fun _ => laws_heldSampleS.l0.eq_2 ..) ?_,hy,fun j h' => ?_,by omega,by omega⟩
  ·simp only [w1,w2,wi,Int.toNat_natCast]
   repeat (first|(with_reducible refine ev_pos (by first|omega|rfl|decide) ?_)|(with_reducible refine ev_some ?_))
   simp only [hset,List.set_set]
   exact e1
  ·have ey : rd_T103 y (i : Int) = ⟨c,(c + 1)⟩:=by
    have:=hj i (by omega)
    rw [List.getElem?_set_self (by omega),List.getElem?_eq_getElem (by omega)] at this
    rw [show rd_T103 y (i : Int) = y[i]'(by omega) from getD_lt (by omega)]
    exact Option.some.inj this
   simp only [ey,w1,w2,wi]
   repeat (first|(with_reducible refine ev_pos (by first|omega|rfl|decide) ?_))
   exact e2
  ·rw [hj j (by omega),List.getElem?_set_ne (by omega)]
 obtain ⟨y,c',e1,e2,_,_,q1,q2⟩:=key
 exact ⟨y,c',e1,e2,q1,by omega⟩
end Go.Proofs.Ytfdbbpnmnogddaa.U
namespace Go.Proofs.Ytfdbbpnmnogddaa.U
open Go.RowKit Go.Proofs.Ytfdbbpnmnogddaa.Pr Go.Proofs.YtfdbbpnmnogddaaW.PrintWords Go.Proofs.YtfdbbpnmnogddaaW.PrintLast Go.Proofs.YtfdbbpnmnogddaaW.PrintMore
set_option linter.unusedVariables false
set_option linter.unusedSimpArgs false
def sm65 (x : S65) : Prop:=(x.f0.length ≤ 1048576 ∧ ∀ y ∈ x.f0,sm52 y) ∧ x.f1.length ≤ 1048576
def cv65 (x : S65) : S69:=⟨x.f0.map cv52,x.f1.map cv116⟩
theorem toSeries (x : S65) (hx : sm65 x) : Ev (fun k => laws_toSeries.f k x.f0 x.f1) (x.f0.map cv52,x.f1.map cv116):=by
 obtain ⟨h0,h1⟩:=hx
 unfold laws_toSeries.f
 refine ev_bind (toLabelS _ h0) ?_
 refine ev_bind (toSampleS _ h1) ?_
 exact ev_now _
def se69 (x : S69) : Prop:=(x.f0.length ≤ 1048576) ∧ (x.f1.length ≤ 1048576)
theorem eqSeries (x : S69) (hx : se69 x) : Ev (fun k => laws_eqSeries.f k x.f0 x.f1 x.f0 x.f1) true:=by
 obtain ⟨h0,h1⟩:=hx
 unfold laws_eqSeries.f
 refine ev_bind (eqLabelS _ h0) ?_
 refine ev_pos rfl ?_
 refine ev_bind (eqSampleS _ h1) ?_
 refine ev_pos rfl ?_
 exact ev_now _
def sw65 (x : S65) : Prop:=(x.f0.length ≤ maxLen ∧ ∀ y ∈ x.f0,sw52 y) ∧ (x.f1.length ≤ maxLen ∧ ∀ y ∈ x.f1,((-9223372036854775808 ≤ (y.f0 : Int) ∧ (y.f0 : Int) ≤ 9223372036854775807)) ∧ ((-9223372036854775808 ≤ (y.f1 : Int) ∧ (y.f1 : Int) ≤ 9223372036854775807)))
theorem szSeries (x : S65) (c : Int) (h0 : 0 ≤ c) (h1 : c ≤ 1048576) (hw : sw65 x) : ∃ r,Ev (fun k => laws_szSeries.f k x.f0 x.f1 c) r ∧ r ≤ c ∧ (0 ≤ r → sm65 x):=by
 obtain ⟨w0,w1⟩:=hw
 unfold laws_szSeries.f
 obtain ⟨r0,e0,q0,s0⟩:=szLabelS x.f0 c (by omega) (by omega) w0.1 w0.2
 by_cases n0 : r0 < 0
 ·exact ⟨-1,ev_bind e0 (ev_pos n0 (ev_now _)),by omega,fun h => absurd h (by decide)⟩
 ·skip
  obtain ⟨r1,e1,q1,s1⟩:=szSampleS x.f1 r0 (by omega) (by omega) w1.1
  by_cases n1 : r1 < 0
  ·exact ⟨-1,ev_bind e0 (ev_neg n0 (ev_bind e1 (ev_pos n1 (ev_now _)))),by omega,fun h => absurd h (by decide)⟩
  ·skip
   exact ⟨_,ev_bind e0 (ev_neg n0 (ev_bind e1 (ev_neg n1 (ev_now _)))),by omega,fun _ => ⟨s0 (by omega),s1 (by omega)⟩⟩
end Go.Proofs.Ytfdbbpnmnogddaa.U
namespace Go.Proofs.Ytfdbbpnmnogddaa.U
open Go.RowKit Go.Proofs.Ytfdbbpnmnogddaa.Pr Go.Proofs.YtfdbbpnmnogddaaW.PrintWords Go.Proofs.YtfdbbpnmnogddaaW.PrintLast Go.Proofs.YtfdbbpnmnogddaaW.PrintMore
set_option linter.unusedVariables false
set_option linter.unusedSimpArgs false
theorem toSeriesS (l : List (S65)) (hl : (l.length ≤ 1048576 ∧ ∀ y ∈ l,sm65 y)) : Ev (fun k => laws_toSeriesS.f k l) (l.map cv65):=by
 obtain ⟨hl,hs⟩:=hl
 unfold laws_toSeriesS.f
 repeat (first|(with_reducible refine ev_pos (by first|omega|rfl|decide) ?_)|(with_reducible refine ev_neg (by first|omega|decide) ?_))
 have key:=ev_copy (F:=fun k y i => laws_toSeriesS.l0 k l y i) cv65 l (List.replicate ((l.length : Int) : Int).toNat z69) (by simp) ?step ?done
 case step =>
  intro i h y r hy hr
  refine ev_step (fun _ => laws_toSeriesS.l0.eq_2 ..) ?_
  repeat (first|(with_reducible refine ev_pos (by first|omega|rfl|decide) ?_)|(with_reducible refine ev_neg (by first|omega|decide) ?_))
  rw [(show rd_T65 l (i : Int) = l[i] from getD_lt h)]
  refine ev_bind (toSeries l[i] (hs _ (List.getElem_mem h))) ?_
  repeat (first|(with_reducible refine ev_pos (by first|omega|rfl|decide) ?_)|(with_reducible refine ev_neg (by first|omega|decide) ?_))
  rw [w64n h (by omega),Int.toNat_natCast]
  exact hr
 case done =>
  intro y hy
  refine ev_step (fun _ => laws_toSeriesS.l0.eq_2 ..) ?_
  repeat (first|(with_reducible refine ev_pos (by first|omega|rfl|decide) ?_)|(with_reducible refine ev_neg (by first|omega|decide) ?_))
  exact ev_now _
 exact key
theorem eqSeriesS (l : List (S69)) (hl : l.length ≤ 1048576) (hs : ∀ x ∈ l,se69 x) : Ev (fun k => laws_eqSeriesS.f k l l) true:=by
 unfold laws_eqSeriesS.f
 refine ev_pos rfl ?_
 refine up_ind l.length (fun i => Ev (fun k => laws_eqSeriesS.l0 k l l (i : Int)) true) ?_ ?_ 0 (by omega)
 ·refine ev_step (fun _ => laws_eqSeriesS.l0.eq_2 ..) ?_
  refine ev_neg (by omega) ?_
  exact ev_now _
 ·intro i h ih
  refine ev_step (fun _ => laws_eqSeriesS.l0.eq_2 ..) ?_
  repeat (first|(with_reducible refine ev_pos (by first|omega|rfl|decide) ?_)|(with_reducible refine ev_neg (by first|omega|decide) ?_))
  rw [(show rd_T69 l (i : Int) = l[i] from getD_lt h)]
  refine ev_bind (eqSeries l[i] (hs _ (List.getElem_mem h))) ?_
  refine ev_pos rfl ?_
  rw [w64n h (by omega)]
  exact ih
theorem szSeriesS (l : List (S65)) (c : Int) (h0 : 0 ≤ c) (h1 : c ≤ 1048576) (hl : l.length ≤ maxLen) (hw : ∀ x ∈ l,sw65 x) : ∃ r,Ev (fun k => laws_szSeriesS.f k l c) r ∧ r ≤ c ∧ (0 ≤ r → (l.length ≤ 1048576 ∧ ∀ y ∈ l,sm65 y)):=by
 simp only [maxLen] at hl
 unfold laws_szSeriesS.f
 rw [w64 (x:=c - (l.length : Int)) (by omega) (by omega)]
 by_cases hn : c - (l.length : Int) < 0
 ·exact ⟨-1,ev_pos hn (ev_now _),by omega,fun h => absurd h (by decide)⟩
 ·have key:=up_ind l.length (fun i => ∀ c : Int,0 ≤ c → c ≤ 1048576 → ∃ r,Ev (fun k => laws_szSeriesS.l0 k l c (i : Int)) r ∧ r ≤ c ∧ (0 ≤ r → ∀ j (h : j < l.length),i ≤ j → sm65 l[j])) ?d ?s 0 (by omega) (c - (l.length : Int)) (by omega) (by omega)
  case d => exact fun c h0 h1 => ⟨c,ev_step (fun _ => laws_szSeriesS.l0.eq_2 ..) (ev_neg (by omega) (ev_now _)),Int.le_refl _,fun _ j h hj => by omega⟩
  case s =>
   intro i h ih c h0 h1
   obtain ⟨r1,e1,hr1,hs1⟩:=szSeries l[i] c h0 h1 (hw _ (List.getElem_mem h))
   by_cases hr : r1 < 0
   ·refine ⟨-1,ev_step (fun _ => laws_szSeriesS.l0.eq_2 ..) ?_,by omega,fun h => absurd h (by decide)⟩
    repeat (first|(with_reducible refine ev_pos (by first|omega|rfl|decide) ?_)|(with_reducible refine ev_neg (by first|omega|decide) ?_))
    rw [(show rd_T65 l (i : Int) = l[i] from getD_lt h)]
    exact ev_bind e1 (ev_pos hr (ev_now _))
   ·obtain ⟨r,e,hrc,hs⟩:=ih (r1) (by omega) (by omega)
    refine ⟨r,ev_step (fun _ => laws_szSeriesS.l0.eq_2 ..) ?_,by omega,fun h2 j hj hij => ?_⟩
    ·repeat (first|(with_reducible refine ev_pos (by first|omega|rfl|decide) ?_)|(with_reducible refine ev_neg (by first|omega|decide) ?_))
     rw [(show rd_T65 l (i : Int) = l[i] from getD_lt h)]
     refine ev_bind e1 (ev_neg hr ?_)
     rw [w64n h (by omega)]
     exact e
    ·by_cases ej : j = i
     ·subst ej
      exact hs1 (by omega)
     ·exact hs h2 j hj (by omega)
  obtain ⟨r,e,hrc,hs⟩:=key
  refine ⟨r,ev_neg hn e,by omega,fun h => ⟨by omega,fun y hy => ?_⟩⟩
  obtain ⟨j,hj,rfl⟩:=List.getElem_of_mem hy
  exact hs h j hj (by omega)
end Go.Proofs.Ytfdbbpnmnogddaa.U
namespace Go.Proofs.Ytfdbbpnmnogddaa.U
open Go.RowKit Go.Proofs.Ytfdbbpnmnogddaa.Pr Go.Proofs.YtfdbbpnmnogddaaW.PrintWords Go.Proofs.YtfdbbpnmnogddaaW.PrintLast Go.Proofs.YtfdbbpnmnogddaaW.PrintMore
set_option linter.unusedVariables false
set_option linter.unusedSimpArgs false
theorem fitL_cv (l : List S52) (h : l.length ≤ 1048576 ∧ ∀ x ∈ l,sm52 x) : fitL (l.map cv52):=by
 refine ⟨by rw [List.length_map];omega,fun x hx => ?_⟩
 obtain ⟨y,hy,rfl⟩:=List.mem_map.1 hx
 obtain ⟨h1,h2⟩:=h.2 y hy
 exact ⟨by show y.f0.size ≤ _;omega,by show y.f1.size ≤ _;omega⟩
end Go.Proofs.Ytfdbbpnmnogddaa.U
namespace Go.Proofs.Ytfdbbpnmnogddaa.U
open Go.RowKit Go.Proofs.Ytfdbbpnmnogddaa.Pr Go.Proofs.YtfdbbpnmnogddaaW.PrintWords Go.Proofs.YtfdbbpnmnogddaaW.PrintLast Go.Proofs.YtfdbbpnmnogddaaW.PrintMore
set_option linter.unusedVariables false
set_option linter.unusedSimpArgs false
def namedS (l : List S56) : Bool:=goodL l && ((ofL (⟨#[95,110,97,109,101]⟩ : ByteArray) l).toList != [])
def beforeS (p : Option (List S56)) (l : List S56) : Bool:=match p with
 | none => true
 | some q => decide (cmpLL q l < 0)
def serL (p : Option (List S56)) : List S69 → Bool
 | [] => true
 | x :: xs => namedS x.f0 && decide (x.f1.length ≠ 0) && goodS x.f1 && beforeS p x.f0 && serL (some x.f0) xs
def goodSer (l : List S69) : Bool:=decide (l.length ≤ 200) && serL none l
def fitS (l : List S69) : Prop:=l.length ≤ 9223372036854775807 ∧ ∀ x ∈ l,fitL x.f0 ∧ x.f1.length ≤ 9223372036854775807
def ptSer (l : List S69) (i : Nat) : Option (List S56):=if i = 0 then none else some (rd_T69 l ((i - 1 : Nat) : Int)).f0
theorem ser_impl (l : List S69) (hf : fitS l) : Ev (fun k => impl_GoodSeries.l0 k l l (l.length : Int) 0) (serL none l):=by
 obtain ⟨hl,hw⟩:=hf
 have hrd : ∀ (i : Nat) (h : i < l.length),rd_T69 l (i : Int) = l[i]:=fun i h => getD_lt h
 refine up_ind l.length (fun i => Ev (fun k => impl_GoodSeries.l0 k l l (l.length : Int) (i : Int)) (serL (ptSer l i) (l.drop i))) ?_ ?_ 0 (by omega)
 ·rw [List.drop_length]
  refine ev_step (fun _ => impl_GoodSeries.l0.eq_2 ..) (ev_neg (by omega) ?_)
  exact ev_now _
 ·intro i h ih
  have hp : ptSer l (i + 1) = some l[i].f0:=by unfold ptSer;rw [if_neg (by omega),Nat.add_sub_cancel,hrd i h]
  rw [hp] at ih
  have wi : wrap64 ((i : Int) + 1) = ((i + 1 : Nat) : Int):=w64n h hl
  obtain ⟨fl,fs⟩:=hw l[i] (List.getElem_mem h)
  refine ev_step (fun _ => impl_GoodSeries.l0.eq_2 ..) (ev_pos (by omega) (ev_pos (by omega) (ev_pos (by omega) ?_)))
  rw [hrd i h,List.drop_eq_getElem_cons h]
  simp only [serL,namedS]
  refine ev_bind (goodLabels_impl _ fl) (ev_ite (fun g => ?_) (fun g => ?_))
  ·rw [g,Bool.true_and]
   refine ev_bind (of_impl _ fl.1 _) (ev_ite (fun n => ?_) (fun n => ?_))
   ·rw [n]
    exact ev_now _
   ·rw [show ((ofL (⟨#[95,110,97,109,101]⟩ : ByteArray) l[i].f0).toList != []) = true from bne_iff_ne.2 n,Bool.true_and]
    refine ev_ite (fun z => ?_) (fun z => ?_)
    ·rw [decide_eq_false (show ¬ l[i].f1.length ≠ 0 from by omega)]
     exact ev_now _
    ·rw [decide_eq_true (show l[i].f1.length ≠ 0 from by omega),Bool.true_and]
     refine ev_bind (goodSamples_impl _ fs) (ev_ite (fun s => ?_) (fun s => ?_))
     ·rw [s,Bool.true_and]
      by_cases hi : i = 0
      ·subst hi
       rw [wi]
       exact ev_neg (by omega) ih
      ·have wm : wrap64 ((i : Int) - 1) = ((i - 1 : Nat) : Int):=by rw [w64 (by omega) (by omega)];omega
       have hq : ptSer l i = some l[i - 1].f0:=by unfold ptSer;rw [if_neg hi,hrd (i - 1) (by omega)]
       rw [wm,hrd (i - 1) (by omega),hq,wi]
       refine ev_pos (by omega) (ev_pos (by omega) (ev_pos (by omega) (ev_bind (cmpLL_impl _ _ (hw l[i - 1] (List.getElem_mem (by omega))).1 fl) ?_)))
       simp only [beforeS]
       refine ev_ite (fun c => ?_) (fun c => ?_)
       ·rw [decide_eq_false (by omega),Bool.false_and]
        exact ev_now _
       ·rw [decide_eq_true (by omega),Bool.true_and]
        exact ih
     ·rw [Bool.eq_false_iff.2 s]
      exact ev_now _
  ·rw [Bool.eq_false_iff.2 g]
   exact ev_now _
theorem goodSeries_impl (l : List S69) (hf : fitS l) : Ev (fun k => impl_GoodSeries.f k l) (goodSer l):=by
 unfold impl_GoodSeries.f goodSer
 refine ev_ite (fun h => ?_) (fun h => ?_)
 ·rw [decide_eq_false (by omega)]
  exact ev_now _
 ·rw [decide_eq_true (by omega),Bool.true_and]
  exact ser_impl l hf
theorem named_spec (l : List S56) (hf : fitL l) : Ev (fun k => spec_l7Named.f k l) (namedS l):=by
 unfold spec_l7Named.f namedS
 refine ev_bind (goodLabels_spec _ hf) (ev_ite (fun g => ?_) (fun g => ?_))
 ·rw [g,Bool.true_and]
  exact ev_bind (of_spec _ hf.1 _) (ev_now _)
 ·rw [Bool.eq_false_iff.2 g]
  exact ev_now _
theorem ser_spec (l : List S69) (hf : fitS l) : Ev (fun k => spec_GoodSeries.l0 k l l (l.length : Int) 0) (serL none l):=by
 obtain ⟨hl,hw⟩:=hf
 have hrd : ∀ (i : Nat) (h : i < l.length),rd_T69 l (i : Int) = l[i]:=fun i h => getD_lt h
 refine up_ind l.length (fun i => Ev (fun k => spec_GoodSeries.l0 k l l (l.length : Int) (i : Int)) (serL (ptSer l i) (l.drop i))) ?_ ?_ 0 (by omega)
 ·rw [List.drop_length]
  refine ev_step (fun _ => spec_GoodSeries.l0.eq_2 ..) (ev_neg (by omega) ?_)
  exact ev_now _
 ·intro i h ih
  have hp : ptSer l (i + 1) = some l[i].f0:=by unfold ptSer;rw [if_neg (by omega),Nat.add_sub_cancel,hrd i h]
  rw [hp] at ih
  have wi : wrap64 ((i : Int) + 1) = ((i + 1 : Nat) : Int):=w64n h hl
  obtain ⟨fl,fs⟩:=hw l[i] (List.getElem_mem h)
  refine ev_step (fun _ => spec_GoodSeries.l0.eq_2 ..) (ev_pos (by omega) (ev_pos (by omega) (ev_pos (by omega) ?_)))
  rw [hrd i h,List.drop_eq_getElem_cons h]
  simp only [serL]
  refine ev_bind (named_spec _ fl) (ev_ite (fun g => ?_) (fun g => ?_))
  ·rw [g,Bool.true_and]
   refine ev_bind (goodSamples_spec _ fs) (ev_ite (fun s => ?_) (fun s => ?_))
   ·rw [s,Bool.and_true]
    refine ev_ite (fun z => ?_) (fun z => ?_)
    ·rw [decide_eq_false (show ¬ l[i].f1.length ≠ 0 from by omega)]
     exact ev_now _
    ·rw [decide_eq_true (show l[i].f1.length ≠ 0 from by omega),Bool.true_and]
     by_cases hi : i = 0
     ·subst hi
      rw [wi]
      exact ev_neg (by omega) ih
     ·have wm : wrap64 ((i : Int) - 1) = ((i - 1 : Nat) : Int):=by rw [w64 (by omega) (by omega)];omega
      have hq : ptSer l i = some l[i - 1].f0:=by unfold ptSer;rw [if_neg hi,hrd (i - 1) (by omega)]
      rw [wm,hrd (i - 1) (by omega),hq,wi]
      refine ev_pos (by omega) (ev_pos (by omega) (ev_pos (by omega) (ev_bind (cmpLL_spec _ _ (hw l[i - 1] (List.getElem_mem (by omega))).1 fl) ?_)))
      simp only [beforeS]
      refine ev_ite (fun c => ?_) (fun c => ?_)
      ·rw [decide_eq_false (by omega),Bool.false_and]
       exact ev_now _
      ·rw [decide_eq_true (by omega),Bool.true_and]
       exact ih
   ·rw [Bool.eq_false_iff.2 s,Bool.and_false]
    exact ev_now _
  ·rw [Bool.eq_false_iff.2 g]
   exact ev_now _
theorem goodSeries_spec (l : List S69) (hf : fitS l) : Ev (fun k => spec_GoodSeries.f k l) (goodSer l):=by
 unfold spec_GoodSeries.f goodSer
 refine ev_ite (fun h => ?_) (fun h => ?_)
 ·rw [decide_eq_false (by omega)]
  exact ev_now _
 ·rw [decide_eq_true (by omega),Bool.true_and]
  exact ser_spec l hf
theorem fitS_cv (l : List S65) (h : l.length ≤ 1048576 ∧ ∀ x ∈ l,sm65 x) : fitS (l.map cv65):=by
 refine ⟨by rw [List.length_map];omega,fun x hx => ?_⟩
 obtain ⟨y,hy,rfl⟩:=List.mem_map.1 hx
 obtain ⟨h1,h2⟩:=h.2 y hy
 exact ⟨fitL_cv _ h1,by show (y.f1.map _).length ≤ _;rw [List.length_map];omega⟩
theorem seS_cv (l : List S65) (h : l.length ≤ 1048576 ∧ ∀ x ∈ l,sm65 x) : ∀ x ∈ l.map cv65,se69 x:=by
 intro x hx
 obtain ⟨y,hy,rfl⟩:=List.mem_map.1 hx
 obtain ⟨h1,h2⟩:=h.2 y hy
 exact ⟨by show (y.f0.map _).length ≤ _;rw [List.length_map];exact h1.1,by show (y.f1.map _).length ≤ _;rw [List.length_map];exact h2⟩
end Go.Proofs.Ytfdbbpnmnogddaa.U
namespace Go.Proofs.Ytfdbbpnmnogddaa.U
open Go.RowKit Go.Proofs.Ytfdbbpnmnogddaa.Pr Go.Proofs.YtfdbbpnmnogddaaW.PrintWords Go.Proofs.YtfdbbpnmnogddaaW.PrintLast Go.Proofs.YtfdbbpnmnogddaaW.PrintMore
set_option linter.unusedVariables false
set_option linter.unusedSimpArgs false
theorem cmpL_eq : ∀ a b : List UInt8,cmpL a b = 0 → a = b
 | [],[] => fun _ => rfl
 | [],_ :: _ => fun h => absurd h (by simp [cmpL])
 | _ :: _,[] => fun h => absurd h (by simp [cmpL])
 | a :: l,b :: m => by
  intro h
  simp only [cmpL] at h
  by_cases e : (a.toNat : Int) = (b.toNat : Int)
  ·rw [if_pos e] at h
   rw [cmpL_eq l m h,UInt8.toNat_inj.1 (show a.toNat = b.toNat by omega)]
  ·rw [if_neg e] at h
   split at h <;> omega
theorem cmpL_trans : ∀ a b c : List UInt8,cmpL a b ≤ 0 → cmpL b c ≤ 0 → cmpL a c ≤ 0 ∧ (cmpL a b < 0 ∨ cmpL b c < 0 → cmpL a c < 0)
 | [],[],_ => fun _ h => ⟨h,fun h2 => h2.elim (fun h3 => absurd h3 (by simp [cmpL])) id⟩
 | [],_ :: _,[] => fun _ h => absurd h (by simp [cmpL])
 | [],_ :: _,_ :: _ => fun _ _ => ⟨by simp [cmpL],fun _ => by simp [cmpL]⟩
 | _ :: _,[],_ => fun h => absurd h (by simp [cmpL])
 | _ :: _,_ :: _,[] => fun _ h => absurd h (by simp [cmpL])
 | x :: a,y :: b,z :: c => by
  have ih:=cmpL_trans a b c
  simp only [cmpL]
  by_cases h1 : (x.toNat : Int) = (y.toNat : Int)
  ·rw [if_pos h1]
   by_cases h2 : (y.toNat : Int) = (z.toNat : Int)
   ·rw [if_pos h2,if_pos (h1.trans h2)]
    exact ih
   ·rw [if_neg h2,if_neg (show ¬ (x.toNat : Int) = (z.toNat : Int) by omega)]
    by_cases h3 : (y.toNat : Int) < (z.toNat : Int)
    ·rw [if_pos h3,if_pos (show (x.toNat : Int) < (z.toNat : Int) by omega)]
     exact fun _ _ => ⟨by omega,fun _ => by omega⟩
    ·rw [if_neg h3]
     intro _ h
     omega
  ·rw [if_neg h1]
   by_cases h3 : (x.toNat : Int) < (y.toNat : Int)
   ·rw [if_pos h3]
    by_cases h2 : (y.toNat : Int) = (z.toNat : Int)
    ·rw [if_neg (show ¬ (x.toNat : Int) = (z.toNat : Int) by omega),if_pos (show (x.toNat : Int) < (z.toNat : Int) by omega)]
     exact fun _ _ => ⟨by omega,fun _ => by omega⟩
    ·rw [if_neg h2]
     by_cases h4 : (y.toNat : Int) < (z.toNat : Int)
     ·rw [if_neg (show ¬ (x.toNat : Int) = (z.toNat : Int) by omega),if_pos (show (x.toNat : Int) < (z.toNat : Int) by omega)]
      exact fun _ _ => ⟨by omega,fun _ => by omega⟩
     ·rw [if_neg h4]
      intro _ h
      omega
   ·rw [if_neg h3]
    intro h
    omega
end Go.Proofs.Ytfdbbpnmnogddaa.U
namespace Go.Proofs.Ytfdbbpnmnogddaa.U
open Go.RowKit Go.Proofs.Ytfdbbpnmnogddaa.Pr Go.Proofs.YtfdbbpnmnogddaaW.PrintWords Go.Proofs.YtfdbbpnmnogddaaW.PrintLast Go.Proofs.YtfdbbpnmnogddaaW.PrintMore
set_option linter.unusedVariables false
set_option linter.unusedSimpArgs false
theorem cmpLL_neg : ∀ a b : List S56,cmpLL b a = - cmpLL a b
 | [],[] => rfl
 | [],_ :: _ => rfl
 | _ :: _,[] => rfl
 | a :: l,b :: m => by
  have e0:=cmpL_neg (Y a.f0) (Y b.f0)
  have e1:=cmpL_neg (Y a.f1) (Y b.f1)
  have ih:=cmpLL_neg l m
  simp only [cmpLL]
  by_cases h0 : cmpL (Y a.f0) (Y b.f0) = 0
  ·rw [if_pos h0,if_pos (show cmpL (Y b.f0) (Y a.f0) = 0 by omega)]
   by_cases h1 : cmpL (Y a.f1) (Y b.f1) = 0
   ·rw [if_pos h1,if_pos (show cmpL (Y b.f1) (Y a.f1) = 0 by omega)]
    exact ih
   ·rw [if_neg h1,if_neg (show ¬ cmpL (Y b.f1) (Y a.f1) = 0 by omega)]
    exact e1
  ·rw [if_neg h0,if_neg (show ¬ cmpL (Y b.f0) (Y a.f0) = 0 by omega)]
   exact e0
theorem cmpLL_trans : ∀ a b c : List S56,cmpLL a b ≤ 0 → cmpLL b c ≤ 0 → cmpLL a c ≤ 0 ∧ (cmpLL a b < 0 ∨ cmpLL b c < 0 → cmpLL a c < 0)
 | [],[],_ => fun _ h => ⟨h,fun h2 => h2.elim (fun h3 => absurd h3 (by simp [cmpLL])) id⟩
 | [],_ :: _,[] => fun _ h => absurd h (by simp [cmpLL])
 | [],_ :: _,_ :: _ => fun _ _ => ⟨by simp [cmpLL],fun _ => by simp [cmpLL]⟩
 | _ :: _,[],_ => fun h => absurd h (by simp [cmpLL])
 | _ :: _,_ :: _,[] => fun _ h => absurd h (by simp [cmpLL])
 | x :: a,y :: b,z :: c => by
  have ih:=cmpLL_trans a b c
  have t0:=cmpL_trans (Y x.f0) (Y y.f0) (Y z.f0)
  have t1:=cmpL_trans (Y x.f1) (Y y.f1) (Y z.f1)
  have z0 : cmpL (Y x.f0) (Y y.f0) = 0 → cmpL (Y x.f0) (Y z.f0) = cmpL (Y y.f0) (Y z.f0):=fun h => by rw [cmpL_eq _ _ h]
  have z1 : cmpL (Y x.f1) (Y y.f1) = 0 → cmpL (Y x.f1) (Y z.f1) = cmpL (Y y.f1) (Y z.f1):=fun h => by rw [cmpL_eq _ _ h]
  have y0 : cmpL (Y y.f0) (Y z.f0) = 0 → cmpL (Y x.f0) (Y z.f0) = cmpL (Y x.f0) (Y y.f0):=fun h => by rw [cmpL_eq _ _ h]
  have y1 : cmpL (Y y.f1) (Y z.f1) = 0 → cmpL (Y x.f1) (Y z.f1) = cmpL (Y x.f1) (Y y.f1):=fun h => by rw [cmpL_eq _ _ h]
  simp only [cmpLL]
  generalize cmpL (Y x.f0) (Y y.f0) = p0 at *
  generalize cmpL (Y y.f0) (Y z.f0) = q0 at *
  generalize cmpL (Y x.f0) (Y z.f0) = r0 at *
  generalize cmpL (Y x.f1) (Y y.f1) = p1 at *
  generalize cmpL (Y y.f1) (Y z.f1) = q1 at *
  generalize cmpL (Y x.f1) (Y z.f1) = r1 at *
  generalize cmpLL a b = p2 at *
  generalize cmpLL b c = q2 at *
  generalize cmpLL a c = r2 at *
  by_cases hp0 : p0 = 0 <;> by_cases hq0 : q0 = 0 <;> by_cases hr0 : r0 = 0 <;> by_cases hp1 : p1 = 0 <;> by_cases hq1 : q1 = 0 <;> by_cases hr1 : r1 = 0 <;> simp only [hp0,hq0,hr0,hp1,hq1,hr1,if_true,if_false] <;> omega
def riseS (l : List S69) : Prop:=l.Pairwise (fun a b => cmpLL a.f0 b.f0 < 0)
theorem serL_rise : ∀ (l : List S69) p,serL p l = true → riseS l ∧ ∀ q,p = some q → ∀ x ∈ l,cmpLL q x.f0 < 0
 | [],_ => fun _ => ⟨List.Pairwise.nil,fun _ _ x hx => absurd hx List.not_mem_nil⟩
 | x :: xs,p => by
  intro h
  simp only [serL,Bool.and_eq_true] at h
  obtain ⟨i1,i2⟩:=serL_rise xs _ h.2
  refine ⟨List.pairwise_cons.2 ⟨fun y hy => i2 _ rfl y hy,i1⟩,?_⟩
  intro q hq y hy
  subst hq
  have hb : cmpLL q x.f0 < 0:=of_decide_eq_true h.1.2
  rcases List.mem_cons.1 hy with e|e
  ·rw [e];exact hb
  ·exact (cmpLL_trans q x.f0 y.f0 (Int.le_of_lt hb) (Int.le_of_lt (i2 _ rfl y e))).2 (.inl hb)
end Go.Proofs.Ytfdbbpnmnogddaa.U
namespace Go.Proofs.Ytfdbbpnmnogddaa.U
open Go.RowKit Go.Proofs.Ytfdbbpnmnogddaa.Pr Go.Proofs.YtfdbbpnmnogddaaW.PrintWords Go.Proofs.YtfdbbpnmnogddaaW.PrintLast Go.Proofs.YtfdbbpnmnogddaaW.PrintMore
set_option linter.unusedVariables false
set_option linter.unusedSimpArgs false
theorem find_loop (l : List S69) (t : List S56) (hf : fitS l) (ht : fitL t) (hs : riseS l) : ∀ d i j,j - i ≤ d → i ≤ j → j ≤ l.length → (∀ m (h : m < l.length),m < i → cmpLL l[m].f0 t < 0) → (∀ m (h : m < l.length),j ≤ m → ¬ cmpLL l[m].f0 t < 0) →
  ∃ r,r ≤ l.length ∧ Ev (fun k => impl_findSeries.l0 l t k i j) r ∧ (∀ m (h : m < l.length),m < r → cmpLL l[m].f0 t < 0) ∧ (∀ m (h : m < l.length),r ≤ m → ¬ cmpLL l[m].f0 t < 0):=by
 have hrd : ∀ (i : Nat) (h : i < l.length),rd_T69 l (i : Int) = l[i]:=fun i h => getD_lt h
 have hg:=List.pairwise_iff_getElem.1 hs
 intro d
 induction d with
 | zero =>
  intro i j hd hij hj h1 h2
  have e : i = j:=by omega
  subst e
  exact ⟨i,hj,ev_step (fun _ => impl_findSeries.l0.eq_2 ..) (ev_neg (by omega) (ev_now _)),h1,h2⟩
 | succ d ih =>
  intro i j hd hij hj h1 h2
  by_cases c : i < j
  ·have hm : (i + j) / 2 < l.length:=by omega
   by_cases c2 : cmpLL l[(i + j) / 2].f0 t < 0
   ·obtain ⟨r,r1,r2,r3,r4⟩:=ih ((i + j) / 2 + 1) j (by omega) (by omega) hj (fun m h hmi => by
     by_cases e : m = (i + j) / 2
     ·subst e;exact c2
     ·exact (cmpLL_trans _ _ t (Int.le_of_lt (hg m ((i + j) / 2) h hm (by omega))) (Int.le_of_lt c2)).2 (.inr c2)) h2
    refine ⟨r,r1,ev_step (fun _ => impl_findSeries.l0.eq_2 ..) (ev_pos c ?_),r3,r4⟩
    rw [hrd _ hm]
    exact ev_bind (cmpLL_impl _ _ (hf.2 _ (List.getElem_mem hm)).1 ht) (ev_pos c2 r2)
   ·obtain ⟨r,r1,r2,r3,r4⟩:=ih i ((i + j) / 2) (by omega) (by omega) (by omega) h1 (fun m h hmi => by
     by_cases e : m = (i + j) / 2
     ·subst e;exact c2
     ·intro h3
      have h4:=hg ((i + j) / 2) m hm h (by omega)
      exact c2 ((cmpLL_trans _ _ t (Int.le_of_lt h4) (Int.le_of_lt h3)).2 (.inl h4)))
    refine ⟨r,r1,ev_step (fun _ => impl_findSeries.l0.eq_2 ..) (ev_pos c ?_),r3,r4⟩
    rw [hrd _ hm]
    exact ev_bind (cmpLL_impl _ _ (hf.2 _ (List.getElem_mem hm)).1 ht) (ev_neg c2 r2)
  ·have e : i = j:=by omega
   subst e
   exact ⟨i,hj,ev_step (fun _ => impl_findSeries.l0.eq_2 ..) (ev_neg (by omega) (ev_now _)),h1,h2⟩
def hasS (l : List S69) (t : List S56) : Bool:=l.any (fun x => decide (cmpLL x.f0 t = 0))
theorem find_impl (l : List S69) (t : List S56) (hb : l.length ≤ 4611686018427387904) (hf : fitS l) (ht : fitL t) (hs : riseS l) : ∃ r : Nat,r ≤ l.length ∧ Ev (fun k => impl_findSeries.f k l t) ((r : Int),hasS l t) ∧ (∀ m (h : m < l.length),m < r → cmpLL l[m].f0 t < 0) ∧ (∀ m (h : m < l.length),r ≤ m → ¬ cmpLL l[m].f0 t < 0):=by
 have hrd : ∀ (i : Nat) (h : i < l.length),rd_T69 l (i : Int) = l[i]:=fun i h => getD_lt h
 have hg:=List.pairwise_iff_getElem.1 hs
 obtain ⟨r,r1,r2,r3,r4⟩:=find_loop l t hf ht hs l.length 0 l.length (by omega) (by omega) (by omega) (fun m h hm => absurd hm (by omega)) (fun m h hm => absurd hm (by omega))
 refine ⟨r,r1,?_,r3,r4⟩
 unfold impl_findSeries.f impl_findSeries.e
 refine ev_pos hb (ev_bind r2 (ev_ite (fun c => ?_) (fun c => ?_)))
 ·rw [hrd _ c]
  refine ev_bind (cmpLL_impl _ _ (hf.2 _ (List.getElem_mem c)).1 ht) ?_
  rw [show hasS l t = (cmpLL l[r].f0 t == 0) from ?_]
  ·exact ev_now _
  ·rw [Bool.eq_iff_iff]
   unfold hasS
   simp only [List.any_eq_true,decide_eq_true_eq,beq_iff_eq]
   constructor
   ·rintro ⟨x,hx,e⟩
    obtain ⟨m,hm,rfl⟩:=List.getElem_of_mem hx
    have h5 : r ≤ m:=Nat.le_of_not_lt (fun h => by have:=r3 m hm h;omega)
    by_cases e2 : r = m
    ·subst e2;exact e
    ·have h6:=hg r m c hm (by omega)
     have h7:=(cmpLL_trans _ _ t (Int.le_of_lt h6) (by omega)).2 (.inl h6)
     exact absurd h7 (r4 r c (Nat.le_refl _))
   ·exact fun e => ⟨_,List.getElem_mem c,e⟩
 ·rw [show hasS l t = false from ?_]
  ·exact ev_now _
  ·unfold hasS
   rw [List.any_eq_false]
   intro x hx
   obtain ⟨m,hm,rfl⟩:=List.getElem_of_mem hx
   have:=r3 m hm (by omega)
   simp only [decide_eq_true_eq]
   omega
end Go.Proofs.Ytfdbbpnmnogddaa.U
namespace Go.Proofs.Ytfdbbpnmnogddaa.U
open Go.RowKit Go.Proofs.Ytfdbbpnmnogddaa.Pr Go.Proofs.YtfdbbpnmnogddaaW.PrintWords Go.Proofs.YtfdbbpnmnogddaaW.PrintLast Go.Proofs.YtfdbbpnmnogddaaW.PrintMore
set_option linter.unusedVariables false
set_option linter.unusedSimpArgs false
end Go.Proofs.Ytfdbbpnmnogddaa.U
namespace Go.Proofs.Ytfdbbpnmnogddaa.U
open Go.RowKit Go.Proofs.Ytfdbbpnmnogddaa.Pr Go.Proofs.YtfdbbpnmnogddaaW.PrintWords Go.Proofs.YtfdbbpnmnogddaaW.PrintLast Go.Proofs.YtfdbbpnmnogddaaW.PrintMore
set_option linter.unusedVariables false
set_option linter.unusedSimpArgs false
theorem place_spec (l : List S69) (t : List S56) (hf : fitS l) (ht : fitL t) (hs : riseS l) : ∃ r : Nat,r ≤ l.length ∧ Ev (fun k => spec_l7Place.f k l t) ((r : Int),hasS l t) ∧ (∀ m (h : m < l.length),m < r → cmpLL l[m].f0 t < 0) ∧ (∀ m (h : m < l.length),r ≤ m → ¬ cmpLL l[m].f0 t < 0):=by
 have hrd : ∀ (i : Nat) (h : i < l.length),rd_T69 l (i : Int) = l[i]:=fun i h => getD_lt h
 have hg:=List.pairwise_iff_getElem.1 hs
 have hno : (∀ m (h : m < l.length),¬ cmpLL l[m].f0 t = 0) → hasS l t = false:=by
  intro h
  unfold hasS
  rw [List.any_eq_false]
  intro x hx
  obtain ⟨m,hm,rfl⟩:=List.getElem_of_mem hx
  simp only [decide_eq_true_eq]
  exact h m hm
 refine up_ind l.length (fun i => (∀ m (h : m < l.length),m < i → cmpLL l[m].f0 t < 0) → ∃ r : Nat,r ≤ l.length ∧ Ev (fun k => spec_l7Place.l0 k l t l (l.length : Int) (i : Int)) ((r : Int),hasS l t) ∧ (∀ m (h : m < l.length),m < r → cmpLL l[m].f0 t < 0) ∧ (∀ m (h : m < l.length),r ≤ m → ¬ cmpLL l[m].f0 t < 0)) ?_ ?_ 0 (by omega) (fun m h hm => absurd hm (by omega))
 ·intro h1
  refine ⟨l.length,Nat.le_refl _,ev_step (fun _ => spec_l7Place.l0.eq_2 ..) (ev_neg (by omega) ?_),fun m h _ => h1 m h h,fun m h hm => absurd hm (by omega)⟩
  rw [hno (fun m h => by have:=h1 m h h;omega)]
  exact ev_now _
 ·intro i h ih h1
  have hc:=cmpLL_spec _ t (hf.2 _ (List.getElem_mem h)).1 ht
  have hge : ¬ cmpLL l[i].f0 t < 0 → ∀ m (h : m < l.length),i ≤ m → ¬ cmpLL l[m].f0 t < 0:=by
   intro hi m hm him h2
   by_cases e : i = m
   ·subst e;exact hi h2
   ·have h3:=hg i m h hm (by omega)
    exact hi ((cmpLL_trans _ _ t (Int.le_of_lt h3) (Int.le_of_lt h2)).2 (.inl h3))
  by_cases c0 : cmpLL l[i].f0 t = 0
  ·refine ⟨i,Nat.le_of_lt h,ev_step (fun _ => spec_l7Place.l0.eq_2 ..) (ev_pos (by omega) (ev_pos (by omega) (ev_pos (by omega) ?_))),h1,hge (by omega)⟩
   rw [hrd i h]
   refine ev_bind hc (ev_pos c0 ?_)
   rw [show hasS l t = true from List.any_eq_true.2 ⟨_,List.getElem_mem h,decide_eq_true c0⟩]
   exact ev_now _
  ·by_cases c1 : cmpLL l[i].f0 t > 0
   ·refine ⟨i,Nat.le_of_lt h,ev_step (fun _ => spec_l7Place.l0.eq_2 ..) (ev_pos (by omega) (ev_pos (by omega) (ev_pos (by omega) ?_))),h1,hge (by omega)⟩
    rw [hrd i h]
    refine ev_bind hc (ev_neg c0 (ev_pos c1 ?_))
    rw [hno (fun m hm e => ?_)]
    ·exact ev_now _
    ·rcases Nat.lt_trichotomy m i with h5|h5|h5
     ·have:=h1 m hm h5;omega
     ·subst h5;exact c0 e
     ·have h3:=hg i m h hm h5
      have:=(cmpLL_trans _ _ t (Int.le_of_lt h3) (by omega)).2 (.inl h3)
      omega
   ·obtain ⟨r,r1,r2,r3,r4⟩:=ih (fun m hm hmi => by
     by_cases e : m = i
     ·subst e;omega
     ·exact h1 m hm (by omega))
    refine ⟨r,r1,ev_step (fun _ => spec_l7Place.l0.eq_2 ..) (ev_pos (by omega) (ev_pos (by omega) (ev_pos (by omega) ?_))),r3,r4⟩
    rw [hrd i h,w64n h hf.1]
    exact ev_bind hc (ev_neg c0 (ev_neg c1 r2))
end Go.Proofs.Ytfdbbpnmnogddaa.U
namespace Go.Proofs.Ytfdbbpnmnogddaa.U
open Go.RowKit Go.Proofs.Ytfdbbpnmnogddaa.Pr Go.Proofs.YtfdbbpnmnogddaaW.PrintWords Go.Proofs.YtfdbbpnmnogddaaW.PrintLast Go.Proofs.YtfdbbpnmnogddaaW.PrintMore
set_option linter.unusedVariables false
set_option linter.unusedSimpArgs false
def mg : Nat → List S103 → List S103 → List S103
 | 0,_,_ => []
 | _ + 1,[],[] => []
 | n + 1,[],b :: vs => b :: mg n [] vs
 | n + 1,a :: us,[] => a :: mg n us []
 | n + 1,a :: us,b :: vs => if a.f0 ≤ b.f0 then (if a.f0 = b.f0 then a :: mg n us vs else a :: mg n us (b :: vs)) else b :: mg n (a :: us) vs
theorem mg_len : ∀ n us vs,(mg n us vs).length ≤ n:=by
 intro n
 induction n with
 | zero => intros;simp [mg]
 | succ n ih =>
  intro us vs
  match us,vs with
  | [],[] => simp [mg]
  | [],b :: vs => simp only [mg,List.length_cons];have:=ih [] vs;omega
  | a :: us,[] => simp only [mg,List.length_cons];have:=ih us [];omega
  | a :: us,b :: vs =>
   simp only [mg]
   split
   ·split
    ·simp only [List.length_cons];have:=ih us vs;omega
    ·simp only [List.length_cons];have:=ih us (b :: vs);omega
   ·simp only [List.length_cons];have:=ih (a :: us) vs;omega
theorem mg_impl (n : Nat) : ∀ (us vs acc : List S103),us.length + vs.length ≤ n → acc.length + n < 8796093022208 → Ev (fun k => impl_merge.l0 k us vs acc) (acc ++ mg n us vs):=by
 have r0 : ∀ (a : S103) us,rd_T103 (a :: us) 0 = a:=fun _ _ => rfl
 have fin : ∀ acc : List S103,Ev (fun k => impl_merge.l0 k [] [] acc) acc:=fun acc =>
  ev_step (fun _ => impl_merge.l0.eq_2 ..) (ev_neg (by simp <;> omega) (ev_step (fun _ => impl_merge.j1.eq_2 ..) (ev_neg (by simp <;> omega) (ev_now _))))
 induction n with
 | zero =>
  intro us vs acc h1 h2
  obtain rfl : us = []:=List.eq_nil_of_length_eq_zero (by omega)
  obtain rfl : vs = []:=List.eq_nil_of_length_eq_zero (by omega)
  simp only [mg,List.append_nil]
  exact fin acc
 | succ n ih =>
  intro us vs acc h1 h2
  match us,vs,h1 with
  | [],[],_ =>
   simp only [mg,List.append_nil]
   exact fin acc
  | [],b :: vs,h1 =>
   simp only [List.length_cons,List.length_nil] at h1
   have hi:=ih [] vs (acc ++ [b]) (by simp only [List.length_nil];omega) (by simp only [List.length_append,List.length_cons,List.length_nil];omega)
   rw [List.append_assoc] at hi
   refine ev_step (fun _ => impl_merge.l0.eq_2 ..) (ev_neg (by simp <;> omega) (ev_step (fun _ => impl_merge.j1.eq_2 ..) (ev_pos (by simp <;> omega) (ev_neg (by simp;omega) (ev_neg (by simp <;> omega) (ev_step (fun _ => impl_merge.j2.eq_2 ..) (ev_neg (by simp <;> omega) (ev_pos (by simp <;> omega) (ev_pos (by omega) (ev_pos (by simp <;> omega) ?_))))))))))
   exact hi
  | a :: us,[],h1 =>
   simp only [List.length_cons,List.length_nil] at h1
   have hi:=ih us [] (acc ++ [a]) (by simp only [List.length_nil];omega) (by simp only [List.length_append,List.length_cons,List.length_nil];omega)
   rw [List.append_assoc] at hi
   refine ev_step (fun _ => impl_merge.l0.eq_2 ..) (ev_pos (by simp <;> omega) (ev_step (fun _ => impl_merge.j1.eq_2 ..) (ev_pos rfl (ev_pos (by simp <;> omega) (ev_step (fun _ => impl_merge.j2.eq_2 ..) (ev_pos rfl (ev_neg (by simp <;> omega) (ev_pos (by simp <;> omega) (ev_pos (by omega) (ev_pos (by simp <;> omega) ?_))))))))))
   exact hi
  | a :: us,b :: vs,h1 =>
   simp only [List.length_cons] at h1
   refine ev_step (fun _ => impl_merge.l0.eq_2 ..) (ev_pos (by simp <;> omega) (ev_step (fun _ => impl_merge.j1.eq_2 ..) (ev_pos rfl (ev_neg (by simp;omega) (ev_pos (by simp <;> omega) (ev_pos (by simp <;> omega) (ev_pos (by simp <;> omega) (ev_step (fun _ => impl_merge.j2.eq_2 ..) ?_))))))))
   rw [r0,r0]
   simp only [mg]
   by_cases hle : a.f0 ≤ b.f0
   ·rw [if_pos hle,decide_eq_true hle]
    refine ev_pos rfl (ev_pos (by simp <;> omega) (ev_pos (by simp <;> omega) (ev_pos (by simp <;> omega) ?_)))
    by_cases heq : a.f0 = b.f0
    ·rw [if_pos heq]
     have hi:=ih us vs (acc ++ [a]) (by omega) (by simp only [List.length_append,List.length_cons,List.length_nil];omega)
     rw [List.append_assoc] at hi
     exact ev_pos heq (ev_pos (by simp <;> omega) (ev_pos (by omega) (ev_pos (by simp <;> omega) hi)))
    ·rw [if_neg heq]
     have hi:=ih us (b :: vs) (acc ++ [a]) (by simp only [List.length_cons];omega) (by simp only [List.length_append,List.length_cons,List.length_nil];omega)
     rw [List.append_assoc] at hi
     exact ev_neg heq (ev_pos (by omega) (ev_pos (by simp <;> omega) hi))
   ·rw [if_neg hle,decide_eq_false hle]
    have hi:=ih (a :: us) vs (acc ++ [b]) (by simp only [List.length_cons];omega) (by simp only [List.length_append,List.length_cons,List.length_nil];omega)
    rw [List.append_assoc] at hi
    exact ev_neg (by decide) (ev_pos (by simp <;> omega) (ev_pos (by omega) (ev_pos (by simp <;> omega) hi)))
theorem mg_spec (A C : List S103) (hA : A.length ≤ 1048576) (hC : C.length ≤ 1048576) (n : Nat) : ∀ (i j : Nat) (acc : List S103),i ≤ A.length → j ≤ C.length → A.length - i + (C.length - j) ≤ n → acc.length + n < 8796093022208 →
  Ev (fun k => spec_l6Merge.l0 k A C acc (i : Int) (j : Int)) (acc ++ mg n (A.drop i) (C.drop j)):=by
 have hrd : ∀ (l : List S103) (i : Nat) (h : i < l.length),rd_T103 l (i : Int) = l[i]:=fun l i h => getD_lt h
 have fin : ∀ acc : List S103,Ev (fun k => spec_l6Merge.l0 k A C acc (A.length : Int) (C.length : Int)) acc:=fun acc =>
  ev_step (fun _ => spec_l6Merge.l0.eq_2 ..) (ev_neg (by omega) (ev_step (fun _ => spec_l6Merge.j1.eq_2 ..) (ev_neg (by simp <;> omega) (ev_now _))))
 induction n with
 | zero =>
  intro i j acc hi hj h1 h2
  obtain rfl : i = A.length:=by omega
  obtain rfl : j = C.length:=by omega
  simp only [mg,List.append_nil]
  exact fin acc
 | succ n ih =>
  intro i j acc hi hj h1 h2
  rcases Nat.lt_or_ge i A.length with ha|ha
  ·have wi : wrap64 ((i : Int) + 1) = ((i + 1 : Nat) : Int):=w64n ha (by omega)
   rcases Nat.lt_or_ge j C.length with hb|hb
   ·have wj : wrap64 ((j : Int) + 1) = ((j + 1 : Nat) : Int):=w64n hb (by omega)
    rw [List.drop_eq_getElem_cons ha,List.drop_eq_getElem_cons hb]
    refine ev_step (fun _ => spec_l6Merge.l0.eq_2 ..) (ev_pos (by omega) (ev_step (fun _ => spec_l6Merge.j1.eq_2 ..) (ev_pos rfl (ev_neg (by omega) (ev_pos (by omega) (ev_pos (by omega) (ev_pos (by omega) (ev_pos (by omega) (ev_step (fun _ => spec_l6Merge.j2.eq_2 ..) ?_)))))))))
    rw [hrd A i ha,hrd C j hb,wi,wj]
    simp only [mg]
    by_cases hle : A[i].f0 ≤ C[j].f0
    ·rw [if_pos hle,decide_eq_true hle]
     refine ev_pos rfl (ev_pos (by omega) (ev_pos (by omega) (ev_pos (by omega) (ev_pos (by omega) ?_))))
     by_cases heq : A[i].f0 = C[j].f0
     ·rw [if_pos heq]
      have hi:=ih (i + 1) (j + 1) (acc ++ [A[i]]) (by omega) (by omega) (by omega) (by simp only [List.length_append,List.length_cons,List.length_nil];omega)
      rw [List.append_assoc] at hi
      exact ev_pos heq (ev_pos (by omega) hi)
     ·rw [if_neg heq]
      have hi:=ih (i + 1) j (acc ++ [A[i]]) (by omega) (by omega) (by omega) (by simp only [List.length_append,List.length_cons,List.length_nil];omega)
      rw [List.append_assoc,List.drop_eq_getElem_cons hb] at hi
      exact ev_neg heq (ev_pos (by omega) hi)
    ·rw [if_neg hle,decide_eq_false hle]
     have hi:=ih i (j + 1) (acc ++ [C[j]]) (by omega) (by omega) (by omega) (by simp only [List.length_append,List.length_cons,List.length_nil];omega)
     rw [List.append_assoc,List.drop_eq_getElem_cons ha] at hi
     exact ev_neg (by decide) (ev_pos (by omega) (ev_pos (by omega) (ev_pos (by omega) hi)))
   ·obtain rfl : j = C.length:=by omega
    rw [List.drop_eq_getElem_cons ha,List.drop_length]
    simp only [mg]
    have hi:=ih (i + 1) C.length (acc ++ [A[i]]) (by omega) (by omega) (by omega) (by simp only [List.length_append,List.length_cons,List.length_nil];omega)
    rw [List.append_assoc,List.drop_length] at hi
    refine ev_step (fun _ => spec_l6Merge.l0.eq_2 ..) (ev_pos (by omega) (ev_step (fun _ => spec_l6Merge.j1.eq_2 ..) (ev_pos rfl (ev_pos rfl (ev_step (fun _ => spec_l6Merge.j2.eq_2 ..) ?_)))))
    rw [hrd A i ha,wi]
    exact ev_pos rfl (ev_neg (by omega) (ev_pos (by omega) (ev_pos (by omega) (ev_pos (by omega) hi))))
  ·obtain rfl : i = A.length:=by omega
   rcases Nat.lt_or_ge j C.length with hb|hb
   ·have wj : wrap64 ((j : Int) + 1) = ((j + 1 : Nat) : Int):=w64n hb (by omega)
    rw [List.drop_length,List.drop_eq_getElem_cons hb]
    simp only [mg]
    have hi:=ih A.length (j + 1) (acc ++ [C[j]]) (by omega) (by omega) (by omega) (by simp only [List.length_append,List.length_cons,List.length_nil];omega)
    rw [List.append_assoc,List.drop_length] at hi
    refine ev_step (fun _ => spec_l6Merge.l0.eq_2 ..) (ev_neg (by omega) ?_)
    rw [decide_eq_true (by omega)]
    refine ev_step (fun _ => spec_l6Merge.j1.eq_2 ..) (ev_pos rfl (ev_neg (by omega) (ev_neg (by omega) (ev_step (fun _ => spec_l6Merge.j2.eq_2 ..) ?_))))
    rw [hrd C j hb,wj]
    exact ev_neg (by decide) (ev_pos (by omega) (ev_pos (by omega) (ev_pos (by omega) hi)))
   ·obtain rfl : j = C.length:=by omega
    rw [List.drop_length,List.drop_length]
    simp only [mg,List.append_nil]
    exact fin acc
end Go.Proofs.Ytfdbbpnmnogddaa.U
namespace Go.Proofs.Ytfdbbpnmnogddaa.U
open Go.RowKit Go.Proofs.Ytfdbbpnmnogddaa.Pr Go.Proofs.YtfdbbpnmnogddaaW.PrintWords Go.Proofs.YtfdbbpnmnogddaaW.PrintLast Go.Proofs.YtfdbbpnmnogddaaW.PrintMore
set_option linter.unusedVariables false
set_option linter.unusedSimpArgs false
theorem serL_gs : ∀ (l : List S69) p,serL p l = true → ∀ x ∈ l,goodS x.f1 = true:=by
 intro l
 induction l with
 | nil => intro _ _ x hx;cases hx
 | cons y ys ih =>
  intro p h x hx
  simp only [serL,Bool.and_eq_true] at h
  rcases List.mem_cons.1 hx with e|e
  ·subst e;exact h.1.1.2
  ·exact ih _ h.2 x e
structure MS (B : Nat) (l : List S69) : Prop where
 rise : riseS l
 fit : fitS l
 l0 : ∀ x ∈ l,x.f0.length ≤ 1048576
 l1 : ∀ x ∈ l,x.f1.length ≤ B
theorem clone_l (l : List S56) (h : l.length ≤ 1048576) : impl_Label_82.f l = some l:=if_pos (by omega)
theorem clone_s (l : List S103) (h : l.length ≤ 1048576) : impl_Sample.f l = some l:=if_pos (by omega)
theorem copy_l (l : List S56) (h : l.length ≤ 1048576) : spec_l3Copy.f l = some l:=if_pos (by simp;omega)
theorem copy_s (l : List S103) (h : l.length ≤ 1048576) : spec_l7CopySamples.f l = some l:=if_pos (by simp;omega)
theorem own_two (l : List S69) (hl : l.length ≤ 1048576) (h0 : ∀ x ∈ l,x.f0.length ≤ 1048576) (h1 : ∀ x ∈ l,x.f1.length ≤ 1048576) : Ev (fun k => impl_ownSeries.f k l) l ∧ Ev (fun k => spec_l7Copy.f k l) l:=by
 have hrd : ∀ (i : Nat) (h : i < l.length),rd_T69 l (i : Int) = l[i]:=fun i h => getD_lt h
 constructor
 ·refine up_ind l.length (fun i => Ev (fun k => impl_ownSeries.l0 k (l.take i) l (l.length : Int) (i : Int)) l) ?_ ?_ 0 (by omega)
  ·rw [List.take_length]
   exact ev_step (fun _ => impl_ownSeries.l0.eq_2 ..) (ev_neg (by omega) (ev_now _))
  ·intro i h ih
   have wi : wrap64 ((i : Int) + 1) = ((i + 1 : Nat) : Int):=w64n h (by omega)
   rw [List.take_succ_eq_append_getElem h] at ih
   refine ev_step (fun _ => impl_ownSeries.l0.eq_2 ..) (ev_pos (by omega) (ev_pos (by omega) (ev_pos (by omega) ?_)))
   rw [hrd i h,wi]
   exact ev_bind (ev_eq (clone_l _ (h0 _ (List.getElem_mem h)))) (ev_bind (ev_eq (clone_s _ (h1 _ (List.getElem_mem h)))) (ev_pos (by rw [List.length_take];omega) ih))
 ·refine up_ind l.length (fun i => Ev (fun k => spec_l7Copy.l0 k (l.take i) l (l.length : Int) (i : Int)) l) ?_ ?_ 0 (by omega)
  ·rw [List.take_length]
   exact ev_step (fun _ => spec_l7Copy.l0.eq_2 ..) (ev_neg (by omega) (ev_now _))
  ·intro i h ih
   have wi : wrap64 ((i : Int) + 1) = ((i + 1 : Nat) : Int):=w64n h (by omega)
   rw [List.take_succ_eq_append_getElem h] at ih
   refine ev_step (fun _ => spec_l7Copy.l0.eq_2 ..) (ev_pos (by omega) (ev_pos (by omega) (ev_pos (by omega) ?_)))
   rw [hrd i h,wi]
   exact ev_bind (ev_eq (copy_l _ (h0 _ (List.getElem_mem h)))) (ev_bind (ev_eq (copy_s _ (h1 _ (List.getElem_mem h)))) (ev_pos (by rw [List.length_take];omega) ih))
theorem cp_put (xs : List S69) (z x : S69) (r : Nat) (hr : r ≤ xs.length) : (cpS (xs ++ [z]) r).set r x = xs.take r ++ x :: xs.drop r:=by
 have hlt : r < (xs ++ [z]).length:=by rw [List.length_append,List.length_singleton];omega
 have ht : ((xs ++ [z]).drop r).take ((xs ++ [z]).length - (r + 1)) = xs.drop r:=by
  rw [List.drop_append_of_le_length hr,List.take_append_of_le_length (by rw [List.length_drop,List.length_append,List.length_singleton];omega)]
  exact List.take_of_length_le (by rw [List.length_drop,List.length_append,List.length_singleton];omega)
 unfold cpS
 rw [ht,List.take_succ_eq_append_getElem hlt,List.take_append_of_le_length hr,List.append_assoc,List.set_append_right _ _ (by rw [List.length_take];omega),List.length_take,Nat.min_eq_left hr,Nat.sub_self]
 rfl
theorem cpS_length (xs : List S69) (i : Nat) : (cpS xs i).length = xs.length:=(cpS_len xs i).symm
theorem ms_put {B : Nat} {l : List S69} (h : MS B l) (r : Nat) (hr : r < l.length) (y : List S103) (B2 : Nat) (hB : B ≤ B2) (hy : y.length ≤ B2) (hB3 : B2 ≤ 1048576) : MS B2 (l.set r ⟨l[r].f0,y⟩):=by
 have hm : ∀ x ∈ l.set r ⟨l[r].f0,y⟩,x ∈ l ∨ x = ⟨l[r].f0,y⟩:=fun x hx => by
  rcases List.mem_or_eq_of_mem_set hx with h|h
  ·exact .inl h
  ·exact .inr h
 have hmap : (l.set r ⟨l[r].f0,y⟩).map (fun x => x.f0) = l.map (fun x => x.f0):=by
  rw [List.map_set]
  have : l[r].f0 = (l.map fun x => x.f0)[r]'(by rw [List.length_map];exact hr):=by rw [List.getElem_map]
  show (l.map fun x => x.f0).set r l[r].f0 = _
  rw [this,List.set_getElem_self]
 refine ⟨?_,⟨by rw [List.length_set];exact h.fit.1,fun x hx => ?_⟩,fun x hx => ?_,fun x hx => ?_⟩
 ·have:=h.rise
  unfold riseS at this ⊢
  rw [← List.pairwise_map (R:=fun a b => cmpLL a b < 0) (f:=fun x : S69 => x.f0)] at this ⊢
  rw [hmap]
  exact this
 ·rcases hm x hx with e|e
  ·exact h.fit.2 x e
  ·rw [e];exact ⟨(h.fit.2 _ (List.getElem_mem hr)).1,by show y.length ≤ _;omega⟩
 ·rcases hm x hx with e|e
  ·exact h.l0 x e
  ·rw [e];show l[r].f0.length ≤ _;exact h.l0 _ (List.getElem_mem hr)
 ·rcases hm x hx with e|e
  ·exact Nat.le_trans (h.l1 x e) hB
  ·rw [e];exact hy
theorem ms_ins {B : Nat} {l : List S69} (h : MS B l) (s : S69) (r : Nat) (hr : r ≤ l.length) (hl : l.length ≤ 1000000) (hlo : ∀ m (q : m < l.length),m < r → cmpLL l[m].f0 s.f0 < 0) (hhi : ∀ m (q : m < l.length),r ≤ m → cmpLL s.f0 l[m].f0 < 0)
  (fs : fitL s.f0) (s0 : s.f0.length ≤ 1048576) (B2 : Nat) (hB : B ≤ B2) (s1 : s.f1.length ≤ B2) (hB3 : B2 ≤ 1048576) : MS B2 (l.take r ++ s :: l.drop r):=by
 have hm : ∀ x ∈ l.take r ++ s :: l.drop r,x ∈ l ∨ x = s:=fun x hx => by
  rcases List.mem_append.1 hx with h|h
  ·exact .inl (List.mem_of_mem_take h)
  ·rcases List.mem_cons.1 h with h|h
   ·exact .inr h
   ·exact .inl (List.mem_of_mem_drop h)
 have lo : ∀ x ∈ l.take r,cmpLL x.f0 s.f0 < 0:=fun x hx => by
  obtain ⟨m,hm,rfl⟩:=List.getElem_of_mem hx
  rw [List.length_take] at hm
  rw [List.getElem_take]
  exact hlo m (by omega) (by omega)
 have hi : ∀ x ∈ l.drop r,cmpLL s.f0 x.f0 < 0:=fun x hx => by
  obtain ⟨m,hm,rfl⟩:=List.getElem_of_mem hx
  rw [List.length_drop] at hm
  rw [List.getElem_drop]
  exact hhi (r + m) (by omega) (by omega)
 have hr2:=h.rise
 unfold riseS at hr2
 refine ⟨?_,⟨by rw [List.length_append,List.length_take,List.length_cons,List.length_drop];omega,fun x hx => ?_⟩,fun x hx => ?_,fun x hx => ?_⟩
 ·unfold riseS
  rw [← List.take_append_drop r l,List.pairwise_append] at hr2
  refine List.pairwise_append.2 ⟨hr2.1,List.pairwise_cons.2 ⟨hi,hr2.2.1⟩,fun a ha b hb => ?_⟩
  rcases List.mem_cons.1 hb with e|e
  ·rw [e];exact lo a ha
  ·exact hr2.2.2 a ha b e
 ·rcases hm x hx with e|e
  ·exact h.fit.2 x e
  ·rw [e];exact ⟨fs,by omega⟩
 ·rcases hm x hx with e|e
  ·exact h.l0 x e
  ·rw [e];exact s0
 ·rcases hm x hx with e|e
  ·exact Nat.le_trans (h.l1 x e) hB
  ·rw [e];exact s1
theorem place_eq (l : List S69) (t : List S56) (r q : Nat) (hr : r ≤ l.length) (hq : q ≤ l.length) (r1 : ∀ m (h : m < l.length),m < r → cmpLL l[m].f0 t < 0) (r2 : ∀ m (h : m < l.length),r ≤ m → ¬ cmpLL l[m].f0 t < 0)
  (q1 : ∀ m (h : m < l.length),m < q → cmpLL l[m].f0 t < 0) (q2 : ∀ m (h : m < l.length),q ≤ m → ¬ cmpLL l[m].f0 t < 0) : q = r:=by
 rcases Nat.lt_trichotomy q r with h|h|h
 ·exact absurd (r1 q (by omega) h) (q2 q (by omega) (Nat.le_refl _))
 ·exact h
 ·exact absurd (q1 r (by omega) h) (r2 r (by omega) (Nat.le_refl _))
theorem ms_step (b out : List S69) (i : Nat) (hi : i < b.length) (hb : b.length ≤ 1000) (B : Nat) (ho : MS B out) (hol : out.length ≤ 100000) (fs : fitL b[i].f0) (s0 : b[i].f0.length ≤ 1048576) (s1 : b[i].f1.length ≤ 2000) (hB : B + 2000 ≤ 1048576) :
  ∃ out2,MS (B + 2000) out2 ∧ out2.length ≤ out.length + 1 ∧ (∀ r,Ev (fun k => impl_mergeSeries.l0 k out2 b (b.length : Int) ((i + 1 : Nat) : Int)) r → Ev (fun k => impl_mergeSeries.l0 k out b (b.length : Int) (i : Int)) r) ∧
   (∀ r,Ev (fun k => spec_l7Merge.l0 k out2 b (b.length : Int) ((i + 1 : Nat) : Int)) r → Ev (fun k => spec_l7Merge.l0 k out b (b.length : Int) (i : Int)) r):=by
 have hrb : rd_T69 b (i : Int) = b[i]:=getD_lt hi
 have wi : wrap64 ((i : Int) + 1) = ((i + 1 : Nat) : Int):=w64n hi (by omega)
 obtain ⟨r,hr,ei,r1,r2⟩:=find_impl out b[i].f0 (by omega) ho.fit fs ho.rise
 obtain ⟨q,hq,es,q1,q2⟩:=place_spec out b[i].f0 ho.fit fs ho.rise
 obtain rfl:=place_eq out _ r q hr hq r1 r2 q1 q2
 cases hT : hasS out b[i].f0 with
 | true =>
  rw [hT] at ei es
  obtain ⟨x,hx,e0⟩:=List.any_eq_true.1 hT
  have e1:=of_decide_eq_true e0
  obtain ⟨m,hm,rfl⟩:=List.getElem_of_mem hx
  have hmq : q ≤ m:=Nat.le_of_not_lt (fun h => by have:=q1 m hm h;omega)
  have hql : q < out.length:=by omega
  have hro : rd_T69 out (q : Int) = out[q]:=getD_lt hql
  have hA:=ho.l1 _ (List.getElem_mem hql)
  have m1 : Ev (fun k => impl_merge.f k out[q].f1 b[i].f1) (mg (out[q].f1.length + b[i].f1.length) out[q].f1 b[i].f1):=mg_impl _ _ _ [] (Nat.le_refl _) (by simp;omega)
  have m2 : Ev (fun k => spec_l6Merge.f k out[q].f1 b[i].f1) (mg (out[q].f1.length + b[i].f1.length) out[q].f1 b[i].f1):=mg_spec _ _ (by omega) (by omega) _ 0 0 [] (by omega) (by omega) (by omega) (by simp;omega)
  have ml:=mg_len (out[q].f1.length + b[i].f1.length) out[q].f1 b[i].f1
  refine ⟨out.set q ⟨out[q].f0,mg (out[q].f1.length + b[i].f1.length) out[q].f1 b[i].f1⟩,ms_put ho q hql _ _ (by omega) (by omega) hB,by rw [List.length_set];omega,fun r h => ?_,fun r h => ?_⟩
  ·refine ev_step (fun _ => impl_mergeSeries.l0.eq_2 ..) (ev_pos (by omega) (ev_pos (by omega) (ev_pos (by omega) ?_)))
   rw [hrb,wi]
   refine ev_bind ei (ev_pos rfl (ev_pos (by omega) (ev_pos (by omega) ?_)))
   dsimp only
   rw [hro,Int.toNat_natCast]
   exact ev_bind m1 h
  ·refine ev_step (fun _ => spec_l7Merge.l0.eq_2 ..) (ev_pos (by omega) (ev_pos (by omega) (ev_pos (by omega) ?_)))
   rw [hrb,wi]
   refine ev_bind es (ev_pos rfl (ev_pos (by omega) (ev_pos (by omega) ?_)))
   dsimp only
   rw [hro,Int.toNat_natCast]
   exact ev_bind m2 h
 | false =>
  rw [hT] at ei es
  have hne : ∀ m (h : m < out.length),¬ cmpLL out[m].f0 b[i].f0 = 0:=fun m h e => by
   have:=List.any_eq_false.1 hT out[m] (List.getElem_mem h)
   exact this (decide_eq_true e)
  have hhi : ∀ m (h : m < out.length),q ≤ m → cmpLL b[i].f0 out[m].f0 < 0:=fun m h hm => by
   have h1:=q2 m h hm
   have h2:=hne m h
   have h3:=cmpLL_neg out[m].f0 b[i].f0
   omega
  have hlen : (cpS (out ++ [(⟨([] : List S56),([] : List S103)⟩ : S69)]) q).length = out.length + 1:=by rw [cpS_length,List.length_append,List.length_singleton]
  refine ⟨out.take q ++ b[i] :: out.drop q,ms_ins ho b[i] q hq (by omega) q1 hhi fs s0 _ (by omega) (by omega) hB,by rw [List.length_append,List.length_take,List.length_cons,List.length_drop];omega,fun r h => ?_,fun r h => ?_⟩
  ·refine ev_step (fun _ => impl_mergeSeries.l0.eq_2 ..) (ev_pos (by omega) (ev_pos (by omega) (ev_pos (by omega) ?_)))
   rw [hrb,wi]
   refine ev_bind ei (ev_neg (by simp) ?_)
   dsimp only
   rw [Int.toNat_natCast]
   exact ev_bind (ev_eq (clone_l _ s0)) (ev_bind (ev_eq (clone_s _ (by omega))) (ev_pos (by omega) (ev_pos (by omega) (ev_pos (by omega) h))))
  ·refine ev_step (fun _ => spec_l7Merge.l0.eq_2 ..) (ev_pos (by omega) (ev_pos (by omega) (ev_pos (by omega) ?_)))
   rw [hrb,wi]
   refine ev_bind es (ev_neg (by simp) (ev_pos (by omega) (ev_some ?_)))
   dsimp only
   rw [Int.toNat_natCast]
   refine ev_pos (by omega) (ev_pos (by rw [List.length_append,List.length_singleton];omega) (ev_some (ev_bind (ev_eq (copy_l _ s0)) (ev_bind (ev_eq (copy_s _ (by omega))) (ev_pos (by omega) (ev_pos (by rw [hlen];omega) ?_))))))
   rw [cp_put _ _ _ _ hq]
   exact h
theorem ms_loop (b : List S69) (hb : b.length ≤ 200) (hf : ∀ x ∈ b,fitL x.f0 ∧ x.f0.length ≤ 1048576 ∧ x.f1.length ≤ 2000) : ∀ (d i : Nat) (out : List S69),i + d = b.length → MS (2000 + 2000 * i) out → out.length ≤ 200 + i →
  ∃ r,MS 1000000 r ∧ r.length ≤ 400 ∧ Ev (fun k => impl_mergeSeries.l0 k out b (b.length : Int) (i : Int)) r ∧ Ev (fun k => spec_l7Merge.l0 k out b (b.length : Int) (i : Int)) r:=by
 intro d
 induction d with
 | zero =>
  intro i out hi ho hl
  exact ⟨out,⟨ho.rise,ho.fit,ho.l0,fun x hx => by have:=ho.l1 x hx;omega⟩,by omega,ev_step (fun _ => impl_mergeSeries.l0.eq_2 ..) (ev_neg (by omega) (ev_now _)),ev_step (fun _ => spec_l7Merge.l0.eq_2 ..) (ev_neg (by omega) (ev_now _))⟩
 | succ d ih =>
  intro i out hi ho hl
  have hib : i < b.length:=by omega
  obtain ⟨f1,f2,f3⟩:=hf b[i] (List.getElem_mem hib)
  obtain ⟨out2,ho2,hl2,e1,e2⟩:=ms_step b out i hib (by omega) _ ho (by omega) f1 f2 f3 (by omega)
  obtain ⟨r,hr,hrl,g1,g2⟩:=ih (i + 1) out2 (by omega) (by rw [show 2000 + 2000 * (i + 1) = 2000 + 2000 * i + 2000 by omega];exact ho2) (by omega)
  exact ⟨r,hr,hrl,e1 r g1,e2 r g2⟩
theorem ms_two (a b : List S69) (ha : fitS a) (hb : fitS b) (la : ∀ x ∈ a,se69 x) (lb : ∀ x ∈ b,se69 x) : ∃ v,v.length ≤ 1048576 ∧ (∀ x ∈ v,se69 x) ∧ Ev (fun k => impl_MergeSeries.f k a b) v ∧ Ev (fun k => spec_MergeSeries.f k a b) v:=by
 have no1 : Ev (fun k => impl_MergeSeries.j0 k a b true) []:=ev_step (fun _ => impl_MergeSeries.j0.eq_2 ..) (ev_pos rfl (ev_now _))
 have no2 : Ev (fun k => spec_MergeSeries.j0 k a b true) []:=ev_step (fun _ => spec_MergeSeries.j0.eq_2 ..) (ev_pos rfl (ev_now _))
 have nil : ([] : List S69).length ≤ 1048576 ∧ ∀ x ∈ ([] : List S69),se69 x:=⟨by simp,fun _ h => absurd h List.not_mem_nil⟩
 unfold impl_MergeSeries.f spec_MergeSeries.f
 by_cases ga : goodSer a = true
 ·by_cases gb : goodSer b = true
  ·have g1 : ∀ l,goodSer l = true → l.length ≤ 200 ∧ serL none l = true:=fun l h => by unfold goodSer at h;have:=Bool.and_eq_true_iff.1 h;exact ⟨of_decide_eq_true this.1,this.2⟩
   obtain ⟨a1,a2⟩:=g1 a ga
   obtain ⟨b1,b2⟩:=g1 b gb
   have gs : ∀ l,serL none l = true → ∀ x ∈ l,x.f1.length ≤ 2000:=fun l h x hx => by have:=serL_gs l none h x hx;unfold goodS at this;exact of_decide_eq_true (Bool.and_eq_true_iff.1 this).1
   obtain ⟨o1,o2⟩:=own_two a (by omega) (fun x hx => (la x hx).1) (fun x hx => (la x hx).2)
   obtain ⟨r,hr,hrl,e1,e2⟩:=ms_loop b b1 (fun x hx => ⟨(hb.2 x hx).1,(lb x hx).1,gs b b2 x hx⟩) b.length 0 a (by omega) ⟨(serL_rise a none a2).1,ha,fun x hx => (la x hx).1,fun x hx => by have:=gs a a2 x hx;omega⟩ (by omega)
   have i1 : Ev (fun k => impl_mergeSeries.f k a b) r:=by unfold impl_mergeSeries.f;exact ev_bind o1 e1
   have i2 : Ev (fun k => spec_l7Merge.f k a b) r:=by unfold spec_l7Merge.f;exact ev_bind o2 e2
   by_cases gr : goodSer r = true
   ·refine ⟨r,by omega,fun x hx => ⟨hr.l0 x hx,by have:=hr.l1 x hx;show x.f1.length ≤ _;omega⟩,ev_bind (goodSeries_impl a ha) (ev_pos ga (ev_bind (goodSeries_impl b hb) ?_)),ev_bind (goodSeries_spec a ha) (ev_pos ga (ev_bind (goodSeries_spec b hb) ?_))⟩
    ·rw [gb]
     exact ev_step (fun _ => impl_MergeSeries.j0.eq_2 ..) (ev_neg (by decide) (ev_bind i1 (ev_bind (goodSeries_impl r hr.fit) (ev_pos gr (ev_now _)))))
    ·rw [gb]
     exact ev_step (fun _ => spec_MergeSeries.j0.eq_2 ..) (ev_neg (by decide) (ev_bind i2 (ev_bind (goodSeries_spec r hr.fit) (ev_pos gr (ev_now _)))))
   ·refine ⟨[],nil.1,nil.2,ev_bind (goodSeries_impl a ha) (ev_pos ga (ev_bind (goodSeries_impl b hb) ?_)),ev_bind (goodSeries_spec a ha) (ev_pos ga (ev_bind (goodSeries_spec b hb) ?_))⟩
    ·rw [gb]
     exact ev_step (fun _ => impl_MergeSeries.j0.eq_2 ..) (ev_neg (by decide) (ev_bind i1 (ev_bind (goodSeries_impl r hr.fit) (ev_neg gr (ev_now _)))))
    ·rw [gb]
     exact ev_step (fun _ => spec_MergeSeries.j0.eq_2 ..) (ev_neg (by decide) (ev_bind i2 (ev_bind (goodSeries_spec r hr.fit) (ev_neg gr (ev_now _)))))
  ·refine ⟨[],nil.1,nil.2,ev_bind (goodSeries_impl a ha) (ev_pos ga (ev_bind (goodSeries_impl b hb) ?_)),ev_bind (goodSeries_spec a ha) (ev_pos ga (ev_bind (goodSeries_spec b hb) ?_))⟩
   ·rw [Bool.eq_false_iff.2 gb];exact no1
   ·rw [Bool.eq_false_iff.2 gb];exact no2
 ·exact ⟨[],nil.1,nil.2,ev_bind (goodSeries_impl a ha) (ev_neg ga no1),ev_bind (goodSeries_spec a ha) (ev_neg ga no2)⟩
end Go.Proofs.Ytfdbbpnmnogddaa.U
namespace Go.Proofs.Ytfdbbpnmnogddaa.U
open Go.RowKit Go.Proofs.Ytfdbbpnmnogddaa.Pr Go.Proofs.YtfdbbpnmnogddaaW.PrintWords Go.Proofs.YtfdbbpnmnogddaaW.PrintLast Go.Proofs.YtfdbbpnmnogddaaW.PrintMore
set_option linter.unusedVariables false
set_option linter.unusedSimpArgs false
theorem mark_labels (n : Nat) (hn : n ≤ 1048576) : ∀ (d i : Nat) (x : List S56) (c : Int),x.length = n → i + d = n → 0 < c → c + 2 * d ≤ 9000000000000000000 → ∃ y,Ev (fun k => laws_markLabelS.l0 k x c (i : Int)) (c + 2 * d,y):=by
 intro d
 induction d with
 | zero =>
  intro i x c hx hi h0 h1
  refine ⟨x,ev_step (fun _ => laws_markLabelS.l0.eq_2 ..) (ev_neg (by omega) ?_)⟩
  rw [show c + 2 * ((0 : Nat) : Int) = c from by omega]
  exact ev_now _
 | succ d ih =>
  intro i x c hx hi h0 h1
  obtain ⟨s,es⟩:=markText c h0 (by omega)
  obtain ⟨s2,es2⟩:=markText (c + 1) (by omega) (by omega)
  obtain ⟨y,e⟩:=ih (i + 1) ((x.set i ⟨s,(rd_T56 x (i : Int)).f1⟩).set i ⟨(rd_T56 (x.set i ⟨s,(rd_T56 x (i : Int)).f1⟩) (i : Int)).f0,s2⟩) (c + 2) (by simp [hx]) (by omega) (by omega) (by omega)
  refine ⟨y,ev_step (fun _ => laws_markLabelS.l0.eq_2 ..) (ev_pos (by omega) (ev_bind es (ev_pos (by omega) (ev_some ?_))))⟩
  rw [w64 (x:=c + 1) (by omega) (by omega),w64 (x:=c + 1 + 1) (by omega) (by omega),w64n (show i < n from by omega) (by omega),Int.toNat_natCast,show c + 2 * ((d + 1 : Nat) : Int) = c + 2 + 2 * (d : Int) from by omega,show c + 1 + 1 = c + 2 from by omega]
  exact ev_bind es2 e
theorem mark_samples (n : Nat) (hn : n ≤ 1048576) : ∀ (d i : Nat) (x : List S103) (c : Int),x.length = n → i + d = n → 0 < c → c + 2 * d ≤ 9000000000000000000 → ∃ y,Ev (fun k => laws_markSampleS.l0 k x c (i : Int)) (c + 2 * d,y):=by
 intro d
 induction d with
 | zero =>
  intro i x c hx hi h0 h1
  refine ⟨x,ev_step (fun _ => laws_markSampleS.l0.eq_2 ..) (ev_neg (by omega) ?_)⟩
  rw [show c + 2 * ((0 : Nat) : Int) = c from by omega]
  exact ev_now _
 | succ d ih =>
  intro i x c hx hi h0 h1
  obtain ⟨y,e⟩:=ih (i + 1) ((x.set i ⟨c,(rd_T103 x (i : Int)).f1⟩).set i ⟨(rd_T103 (x.set i ⟨c,(rd_T103 x (i : Int)).f1⟩) (i : Int)).f0,c + 1⟩) (c + 2) (by simp [hx]) (by omega) (by omega) (by omega)
  refine ⟨y,ev_step (fun _ => laws_markSampleS.l0.eq_2 ..) (ev_pos (by omega) (ev_pos (by omega) (ev_some ?_)))⟩
  rw [w64 (x:=c + 1) (by omega) (by omega),w64 (x:=c + 1 + 1) (by omega) (by omega),w64n (show i < n from by omega) (by omega),Int.toNat_natCast,show c + 2 * ((d + 1 : Nat) : Int) = c + 2 + 2 * (d : Int) from by omega,show c + 1 + 1 = c + 2 from by omega]
  exact e
end Go.Proofs.Ytfdbbpnmnogddaa.U
namespace Go.Proofs.Ytfdbbpnmnogddaa.U
open Go.RowKit Go.Proofs.Ytfdbbpnmnogddaa.Pr Go.Proofs.YtfdbbpnmnogddaaW.PrintWords Go.Proofs.YtfdbbpnmnogddaaW.PrintLast Go.Proofs.YtfdbbpnmnogddaaW.PrintMore
set_option linter.unusedVariables false
set_option linter.unusedSimpArgs false
theorem mark_series_l (n : Nat) (hn : n ≤ 1048576) : ∀ (d i : Nat) (x : List S69) (c : Int),x.length = n → i + d = n → (∀ s ∈ x.drop i,s.f0.length ≤ 1048576 ∧ s.f1.length ≤ 1048576) → 0 < c → c + 4194304 * d ≤ 4000000000000000000 → ∃ y c',Ev (fun k => laws_markSeriesS.l0 k x c (i : Int)) (c',y) ∧ Ev (fun k => laws_heldSeriesS.l0 k y c (i : Int)) c' ∧ y.length = n ∧ (∀ j,j < i → y[j]? = x[j]?) ∧ c ≤ c' ∧ c' ≤ c + 4194304 * d:=by
 intro d
 induction d with
 | zero =>
  intro i x c hx hi hs h0 h1
  exact ⟨x,c,ev_step (fun _ => laws_markSeriesS.l0.eq_2 ..) (ev_neg (by omega) (ev_now _)),ev_step (fun _ => laws_heldSeriesS.l0.eq_2 ..) (ev_neg (by omega) (ev_now _)),hx,fun _ _ => rfl,Int.le_refl _,by omega⟩
 | succ d ih =>
  intro i x c hx hi hs h0 h1
  have hix : i < x.length:=by omega
  have hrd : rd_T69 x (i : Int) = x[i]:=getD_lt hix
  rw [List.drop_eq_getElem_cons hix] at hs
  obtain ⟨b0,b1⟩:=hs x[i] List.mem_cons_self
  have hs':=fun r h => hs r (List.mem_cons_of_mem _ h)
  obtain ⟨y0,c0,m0,e0,q0,p0⟩:=markLabelS x[i].f0 b0 c h0 (by omega)
  obtain ⟨y1,c1,m1,e1,q1,p1⟩:=markSampleS x[i].f1 b1 c0 (by omega) (by omega)
  have wi : wrap64 ((i : Int) + 1) = ((i + 1 : Nat) : Int):=w64n (show i < n from by omega) (by omega)
  have hc1 : c1 ≤ c + 4194304:=by omega
  obtain ⟨y,c',e2,e3,hy,hk,q2,p2⟩:=ih (i + 1) (x.set i ⟨y0,y1⟩) c1 (by simp [hx]) (by omega) (by rw [List.drop_set_of_lt (by omega)];exact hs') (by omega) (by omega)
  have hy2 : i < y.length:=by omega
  have a1 : c ≤ c':=by omega
  have a2 : c' ≤ c + 4194304 * ((d + 1 : Nat) : Int):=by omega
  have n0 : ¬ c0 < 0:=by omega
  have n1 : ¬ c1 < 0:=by omega
  have l1 : (i : Int) < (x.length : Int):=by omega
  have l2 : (i : Int) < (y.length : Int):=by omega
  have l3 : 0 ≤ (i : Int):=by omega
  clear h1 hc1 p0 p1 p2 q0 q1 q2
  refine ⟨y,c',ev_step (fun _ => laws_markSeriesS.l0.eq_2 ..) (ev_pos l1 (ev_pos l3 ?_)),ev_step (fun _ => laws_heldSeriesS.l0.eq_2 ..) (ev_pos l2 (ev_pos l3 ?_)),hy,fun j h' => ?_,a1,a2⟩
  ·rw [hrd,wi,Int.toNat_natCast]
   exact ev_bind m0 (ev_bind m1 e2)
  ·have ey : rd_T69 y (i : Int) = ⟨y0,y1⟩:=by
    have:=hk i (by omega)
    rw [List.getElem?_set_self hix,List.getElem?_eq_getElem hy2] at this
    rw [show rd_T69 y (i : Int) = y[i]'hy2 from getD_lt hy2]
    exact Option.some.inj this
   rw [ey,wi]
   exact ev_bind e0 (ev_neg n0 (ev_bind e1 (ev_neg n1 e3)))
  ·rw [hk j (by omega),List.getElem?_set_ne (by omega)]
theorem mark_series (l : List S69) (hl : l.length ≤ 1048576) (hs : ∀ x ∈ l,x.f0.length ≤ 1048576 ∧ x.f1.length ≤ 1048576) (c : Int) (h0 : 0 < c) (h1 : c ≤ 1000000000000000) : ∃ y c',Ev (fun k => laws_markSeriesS.f k l c) (c',y) ∧ Ev (fun k => laws_heldSeriesS.f k y c) c' ∧ c ≤ c':=by
 obtain ⟨y,c',e1,e2,_,_,q1,_⟩:=mark_series_l l.length hl l.length 0 l c rfl (by omega) (by simpa using hs) h0 (by omega)
 exact ⟨y,c',e1,e2,q1⟩
theorem mark_series1_l (n : Nat) (hn : n ≤ 1048576) : ∀ (d i : Nat) (x : List S69) (c : Int),x.length = n → i + d = n → (∀ s ∈ x.drop i,s.f0.length ≤ 1048576 ∧ s.f1.length ≤ 1048576) → 0 < c → c + 4194304 * d ≤ 4000000000000000000 → ∃ y c',Ev (fun k => laws_markSeriesS.l0 k x c (i : Int)) (c',y) ∧ c ≤ c' ∧ c' ≤ c + 4194304 * d:=by
 intro d
 induction d with
 | zero =>
  intro i x c hx hi hs h0 h1
  exact ⟨x,c,ev_step (fun _ => laws_markSeriesS.l0.eq_2 ..) (ev_neg (by omega) (ev_now _)),Int.le_refl _,by omega⟩
 | succ d ih =>
  intro i x c hx hi hs h0 h1
  have hix : i < x.length:=by omega
  have hrd : rd_T69 x (i : Int) = x[i]:=getD_lt hix
  rw [List.drop_eq_getElem_cons hix] at hs
  obtain ⟨b0,b1⟩:=hs x[i] List.mem_cons_self
  have hs':=fun r h => hs r (List.mem_cons_of_mem _ h)
  obtain ⟨y0,m0⟩:=mark_labels x[i].f0.length b0 x[i].f0.length 0 x[i].f0 c rfl (by omega) h0 (by omega)
  obtain ⟨c0,hc0⟩ : ∃ c0 : Int,c0 = c + 2 * (x[i].f0.length : Int):=⟨_,rfl⟩
  rw [← hc0] at m0
  obtain ⟨y1,m1⟩:=mark_samples x[i].f1.length b1 x[i].f1.length 0 x[i].f1 c0 rfl (by omega) (by omega) (by omega)
  obtain ⟨c1,hc1⟩ : ∃ c1 : Int,c1 = c0 + 2 * (x[i].f1.length : Int):=⟨_,rfl⟩
  rw [← hc1] at m1
  have wi : wrap64 ((i : Int) + 1) = ((i + 1 : Nat) : Int):=w64n (show i < n from by omega) (by omega)
  obtain ⟨y,c',e2,q2,p2⟩:=ih (i + 1) (x.set i ⟨y0,y1⟩) c1 (by simp [hx]) (by omega) (by rw [List.drop_set_of_lt (by omega)];exact hs') (by omega) (by omega)
  have a1 : c ≤ c':=by omega
  have a2 : c' ≤ c + 4194304 * ((d + 1 : Nat) : Int):=by omega
  have l1 : (i : Int) < (x.length : Int):=by omega
  have l3 : 0 ≤ (i : Int):=by omega
  clear h1 p2 q2
  refine ⟨y,c',ev_step (fun _ => laws_markSeriesS.l0.eq_2 ..) (ev_pos l1 (ev_pos l3 ?_)),a1,a2⟩
  rw [hrd,wi,Int.toNat_natCast]
  exact ev_bind (a:=(c0,y0)) (by unfold laws_markLabelS.f;exact m0) (ev_bind (a:=(c1,y1)) (by unfold laws_markSampleS.f;exact m1) e2)
theorem mark_series1 (l : List S69) (hl : l.length ≤ 1048576) (hs : ∀ x ∈ l,x.f0.length ≤ 1048576 ∧ x.f1.length ≤ 1048576) (c : Int) (h0 : 0 < c) (h1 : c ≤ 1000000000000000) : ∃ y c',Ev (fun k => laws_markSeriesS.f k l c) (c',y) ∧ c ≤ c' ∧ c' ≤ 1010000000000000:=by
 obtain ⟨y,c',e1,q1,p1⟩:=mark_series1_l l.length hl l.length 0 l c rfl (by omega) (by simpa using hs) h0 (by omega)
 exact ⟨y,c',e1,q1,by omega⟩
end Go.Proofs.Ytfdbbpnmnogddaa.U
