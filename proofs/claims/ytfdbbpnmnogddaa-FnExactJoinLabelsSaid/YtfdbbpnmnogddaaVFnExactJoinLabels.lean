/- Plain lemmas over the printed functions, for the law FnExactJoinLabels; each theorem states its own conditions. -/
import Derived.Test.YtfdbbpnmnogddaaPrx0
import Derived.Test.YtfdbbpnmnogddaaPrxg6b3cbi1
import Derived.Test.YtfdbbpnmnogddaaPrxg6b3cbi2
import Derived.Test.YtfdbbpnmnogddaaPrxg6b3cbi3
import Derived.Test.YtfdbbpnmnogddaaPrxg6b3cbi4
import Derived.Test.YtfdbbpnmnogddaaPrxg6b3cbl1
import Derived.Test.YtfdbbpnmnogddaaPrxg6b3cbl2
import Derived.Test.YtfdbbpnmnogddaaPrxg6b3cbs1
import Derived.Test.YtfdbbpnmnogddaaPrxg6b3cbs2
namespace Go.Proofs.Ytfdbbpnmnogddaa.U
open Go.RowKit Go.Proofs.Ytfdbbpnmnogddaa.Pr Go.Proofs.YtfdbbpnmnogddaaW.PrintWords Go.Proofs.YtfdbbpnmnogddaaW.PrintLast Go.Proofs.YtfdbbpnmnogddaaW.PrintMore
set_option linter.unusedVariables false
set_option linter.unusedSimpArgs false
theorem w64 {x : Int} (h0 : -9223372036854775808 ≤ x) (h1 : x ≤ 9223372036854775807) : wrap64 x = x:=by unfold wrap64;omega
theorem w64n {i n : Nat} (h : i < n) (hn : n ≤ 9223372036854775807) : wrap64 ((i : Int) + 1) = ((i + 1 : Nat) : Int):=by unfold wrap64;omega
theorem wu64 (n : Int) : IntKind.u64.wrap n = n % 18446744073709551616:=by simp [IntKind.wrap,IntKind.bits,IntKind.signed]
theorem ev_now {α : Type} (r : α) : Ev (fun _ => some r) r:=Ev.now r
theorem ev_eq {α : Type} {g : Option α} {r : α} (h : g = some r) : Ev (fun _ => g) r:=⟨0,fun _ _ => h⟩
theorem ev_pos {α : Type} {c : Prop} [Decidable c] {a b : Nat → Option α} {r : α} (h : c) (e : Ev a r) : Ev (fun k => if c then a k else b k) r:=by
 obtain ⟨K,e⟩:=e
 exact ⟨K,fun k hk => (if_pos h).trans (e k hk)⟩
theorem ev_neg {α : Type} {c : Prop} [Decidable c] {a b : Nat → Option α} {r : α} (h : ¬ c) (e : Ev b r) : Ev (fun k => if c then a k else b k) r:=by
 obtain ⟨K,e⟩:=e
 exact ⟨K,fun k hk => (if_neg h).trans (e k hk)⟩
theorem ev_ite {α : Type} {c : Prop} [Decidable c] {a b : Nat → Option α} {r : α} (h : c → Ev a r) (h' : ¬ c → Ev b r) : Ev (fun k => if c then a k else b k) r:=by
 by_cases hc : c
 ·exact ev_pos hc (h hc)
 ·exact ev_neg hc (h' hc)
theorem ev_bind {α β : Type} {g : Nat → Option α} {f : Nat → α → Option β} {a : α} {r : β} (h : Ev g a) (k : Ev (fun n => f n a) r) : Ev (fun n => (g n).bind (f n)) r:=Ev.bind h k
theorem ev_some {α β : Type} {f : Nat → α → Option β} {a : α} {r : β} (k : Ev (fun n => f n a) r) : Ev (fun n => (some a).bind (f n)) r:=Ev.bind (Ev.now a) k
theorem ev_step {α : Type} {g f : Nat → Option α} {r : α} (h : ∀ k,g (k + 1) = f k) (k : Ev f r) : Ev g r:=Ev.step h k
theorem ev_one {α : Type} {g : Nat → Option α} {r q : α} (h : Ev g r) (h' : Ev g q) : r = q:=by
 obtain ⟨K,h⟩:=h
 obtain ⟨K',h'⟩:=h'
 exact Option.some.inj ((h (max K K') (Nat.le_max_left _ _)).symm.trans (h' _ (Nat.le_max_right _ _)))
theorem up_ind (n : Nat) (Q : Nat → Prop) (done : Q n) (step : ∀ i,i < n → Q (i + 1) → Q i) : ∀ i,i ≤ n → Q i:=by
 have key : ∀ d i,i + d = n → Q i:=by
  intro d
  induction d with
  | zero =>
   intro i h
   have e : i = n:=by omega
   rw [e]
   exact done
  | succ d ih => intro i h;exact step i (by omega) (ih (i + 1) (by omega))
 exact fun i h => key (n - i) i (by omega)
theorem getD_lt {α : Type} {l : List α} {d : α} {i : Nat} (h : i < l.length) : l.getD ((i : Int).toNat) d = l[i]:=by
 rw [Int.toNat_natCast,List.getD_eq_getElem?_getD,List.getElem?_eq_getElem h]
 rfl
theorem rd_at {l : List Int} {i : Nat} (h : i < l.length) : rd l (i : Int) = l[i]:=getD_lt h
theorem rdOf_at {α : Type} {d : α} {l : List α} {i : Nat} (h : i < l.length) : rdOf d l (i : Int) = l[i]:=getD_lt h
theorem ev_copy {α β : Type} (F : Nat → List β → Int → Option (List β)) (cv : α → β) (l : List α) (x : List β) (hx : x.length = l.length)
  (step : ∀ (i : Nat) (h : i < l.length) (y r : List β),y.length = l.length → Ev (fun k => F k (y.set i (cv l[i])) ((i + 1 : Nat) : Int)) r → Ev (fun k => F k y (i : Int)) r)
  (done : ∀ y : List β,y.length = l.length → Ev (fun k => F k y (l.length : Int)) y) : Ev (fun k => F k x 0) (l.map cv):=by
 refine up_ind l.length (fun i => ∀ y : List β,y.length = l.length → (∀ j,j < i → y[j]? = (l.map cv)[j]?) → Ev (fun k => F k y (i : Int)) (l.map cv)) ?_ ?_ 0 (by omega) x hx (fun j hj => by omega)
 ·intro y hy h
  have e : y = l.map cv:=by
   apply List.ext_getElem?
   intro j
   by_cases hj : j < l.length
   ·exact h j hj
   ·rw [List.getElem?_eq_none (by omega),List.getElem?_eq_none (by simp;omega)]
  have d:=done y hy
  rw [e] at d ⊢
  exact d
 ·intro i hi ih y hy h
  refine step i hi y _ hy (ih _ (by simp [hy]) (fun j hj => ?_))
  by_cases e : j = i
  ·subst e
   rw [List.getElem?_set_self (by omega),List.getElem?_map,List.getElem?_eq_getElem hi]
   rfl
  ·rw [List.getElem?_set_ne (Ne.symm e)]
   exact h j (by omega)
end Go.Proofs.Ytfdbbpnmnogddaa.U
namespace Go.Proofs.Ytfdbbpnmnogddaa.U
open Go.RowKit Go.Proofs.Ytfdbbpnmnogddaa.Pr Go.Proofs.YtfdbbpnmnogddaaW.PrintWords Go.Proofs.YtfdbbpnmnogddaaW.PrintLast Go.Proofs.YtfdbbpnmnogddaaW.PrintMore
set_option linter.unusedVariables false
set_option linter.unusedSimpArgs false
abbrev Y (s : ByteArray) : List UInt8:=s.data.toList
theorem Y_eq {s : ByteArray} : s.toList = Y s:=ByteArray.toList_eq s
theorem Y_len (s : ByteArray) : (Y s).length = s.size:=Array.length_toList
theorem bt_at {s : ByteArray} {i : Nat} (h : i < s.size) : bt s (i : Int) = (((Y s)[i]'(by rw [Y_len];exact h)).toNat : Int):=by
 unfold bt
 rw [dif_pos (show ((i : Int)).toNat < s.size from by omega)]
 rfl
theorem Y_drop {s : ByteArray} {i : Nat} (h : i < s.size) : (Y s).drop i = (Y s)[i]'(by rw [Y_len];exact h) :: (Y s).drop (i + 1):=List.drop_eq_getElem_cons _
theorem Y_drop_end (s : ByteArray) : (Y s).drop s.size = []:=by rw [← Y_len,List.drop_length]
def digC (c : UInt8) : Bool:=decide (48 ≤ (c.toNat : Int)) && decide ((c.toNat : Int) ≤ 57)
def letC (c : UInt8) : Bool:=decide (97 ≤ (c.toNat : Int)) && decide ((c.toNat : Int) ≤ 122) || decide (65 ≤ (c.toNat : Int)) && decide ((c.toNat : Int) ≤ 90)
def wordC (c : UInt8) : Bool:=letC c || digC c || decide ((c.toNat : Int) = 95)
def prC (c : UInt8) : Bool:=decide (32 ≤ (c.toNat : Int)) && decide ((c.toNat : Int) ≤ 126)
def nameL (l : List UInt8) : Bool:=decide (1 ≤ l.length) && decide (l.length ≤ 40) && !(l.head?.any digC) && l.all wordC
def prL (n : Nat) (l : List UInt8) : Bool:=decide (l.length ≤ n) && l.all prC
def valL (l : List UInt8) : Bool:=decide (1 ≤ l.length) && prL 100 l
def cmpL : List UInt8 → List UInt8 → Int
 | [],[] => 0
 | [],_ :: _ => -1
 | _ :: _,[] => 1
 | a :: l,b :: m => if (a.toNat : Int) = (b.toNat : Int) then cmpL l m else if (a.toNat : Int) < (b.toNat : Int) then -1 else 1
end Go.Proofs.Ytfdbbpnmnogddaa.U
namespace Go.Proofs.Ytfdbbpnmnogddaa.U
open Go.RowKit Go.Proofs.Ytfdbbpnmnogddaa.Pr Go.Proofs.YtfdbbpnmnogddaaW.PrintWords Go.Proofs.YtfdbbpnmnogddaaW.PrintLast Go.Proofs.YtfdbbpnmnogddaaW.PrintMore
set_option linter.unusedVariables false
set_option linter.unusedSimpArgs false
theorem printed_spec (s : ByteArray) (hs : s.size ≤ 9223372036854775807) : Ev (fun k => spec_l2Printed.f k s) ((Y s).all prC):=by
 refine up_ind s.size (fun i => Ev (fun k => spec_l2Printed.l0 k s (i : Int)) (((Y s).drop i).all prC)) ?_ ?_ 0 (by omega)
 ·rw [Y_drop_end]
  exact ev_step (fun _ => spec_l2Printed.l0.eq_2 ..) (ev_neg (by omega) (ev_now _))
 ·intro i h ih
  refine ev_step (fun _ => spec_l2Printed.l0.eq_2 ..) (ev_pos (by omega) (ev_pos (by omega) ?_))
  rw [bt_at h,Y_drop h,List.all_cons,w64n h hs]
  unfold prC
  refine ev_ite (fun h1 => ?_) (fun h1 => ev_ite (fun h2 => ?_) (fun h2 => ?_))
  ·rw [decide_eq_false (by omega)]
   exact ev_now _
  ·rw [decide_eq_false (show ¬ _ ≤ (126 : Int) from by omega),Bool.and_false,Bool.false_and]
   exact ev_now _
  ·rw [decide_eq_true (by omega),decide_eq_true (by omega)]
   exact ih
theorem printed_impl (s : ByteArray) (hs : s.size ≤ 9223372036854775807) (n : Nat) : Ev (fun k => impl_printed.f k s (n : Int)) (prL n (Y s)):=by
 unfold impl_printed.f prL
 rw [Y_len]
 refine ev_ite (fun h => ?_) (fun h => ?_)
 ·rw [decide_eq_false (by omega)]
  exact ev_now _
 ·rw [decide_eq_true (by omega),Bool.true_and]
  refine up_ind s.size (fun i => Ev (fun k => impl_printed.l0 k s (s.size : Int) (i : Int)) (((Y s).drop i).all prC)) ?_ ?_ 0 (by omega)
  ·rw [Y_drop_end]
   exact ev_step (fun _ => impl_printed.l0.eq_2 ..) (ev_neg (by omega) (ev_now _))
  ·intro i h ih
   refine ev_step (fun _ => impl_printed.l0.eq_2 ..) (ev_pos (by omega) (ev_pos (by omega) (ev_pos (by omega) ?_)))
   rw [bt_at h,Y_drop h,List.all_cons,w64n h hs]
   unfold prC
   refine ev_ite (fun h1 => ?_) (fun h1 => ev_ite (fun h2 => ?_) (fun h2 => ?_))
   ·rw [decide_eq_false (by omega)]
    exact ev_now _
   ·rw [decide_eq_false (show ¬ _ ≤ (126 : Int) from by omega),Bool.and_false,Bool.false_and]
    exact ev_now _
   ·rw [decide_eq_true (by omega),decide_eq_true (by omega)]
    exact ih
end Go.Proofs.Ytfdbbpnmnogddaa.U
namespace Go.Proofs.Ytfdbbpnmnogddaa.U
open Go.RowKit Go.Proofs.Ytfdbbpnmnogddaa.Pr Go.Proofs.YtfdbbpnmnogddaaW.PrintWords Go.Proofs.YtfdbbpnmnogddaaW.PrintLast Go.Proofs.YtfdbbpnmnogddaaW.PrintMore
set_option linter.unusedVariables false
set_option linter.unusedSimpArgs false
theorem digit_impl (c : UInt8) : impl_digitByte.f (c.toNat : Int) = some (digC c):=by
 unfold impl_digitByte.f digC
 by_cases h : (c.toNat : Int) ≥ 48
 ·rw [if_pos h,decide_eq_true (show 48 ≤ (c.toNat : Int) from h),Bool.true_and]
 ·rw [if_neg h,decide_eq_false (show ¬ 48 ≤ (c.toNat : Int) from h),Bool.false_and]
theorem digit_spec (c : UInt8) : spec_l2Digit.f (c.toNat : Int) = some (digC c):=by
 unfold spec_l2Digit.f digC
 by_cases h : (c.toNat : Int) ≥ 48
 ·rw [if_pos h,decide_eq_true (show 48 ≤ (c.toNat : Int) from h),Bool.true_and]
 ·rw [if_neg h,decide_eq_false (show ¬ 48 ≤ (c.toNat : Int) from h),Bool.false_and]
theorem letter_impl (c : UInt8) : impl_letterByte.f (c.toNat : Int) = some (letC c):=by
 unfold impl_letterByte.f letC
 by_cases h : (c.toNat : Int) ≥ 97 <;> by_cases h1 : (c.toNat : Int) ≤ 122 <;> by_cases h2 : (c.toNat : Int) ≥ 65 <;> by_cases h3 : (c.toNat : Int) ≤ 90 <;> simp [h,h1,h2,h3] <;> omega
theorem letter_spec (c : UInt8) : spec_l2Letter.f (c.toNat : Int) = some (letC c):=by
 unfold spec_l2Letter.f letC
 by_cases h : (c.toNat : Int) ≥ 97 <;> by_cases h1 : (c.toNat : Int) ≤ 122 <;> by_cases h2 : (c.toNat : Int) ≥ 65 <;> by_cases h3 : (c.toNat : Int) ≤ 90 <;> simp [h,h1,h2,h3] <;> omega
theorem word_impl (c : UInt8) : impl_wordByte.f (c.toNat : Int) = some (wordC c):=by
 unfold impl_wordByte.f wordC
 rw [letter_impl,digit_impl]
 cases letC c <;> cases digC c <;> simp <;> rfl
theorem name_loop_impl (s : ByteArray) (hs : s.size ≤ 9223372036854775807) : Ev (fun k => impl_isName.l0 k s (s.size : Int) 0) ((Y s).all wordC):=by
 refine up_ind s.size (fun i => Ev (fun k => impl_isName.l0 k s (s.size : Int) (i : Int)) (((Y s).drop i).all wordC)) ?_ ?_ 0 (by omega)
 ·rw [Y_drop_end]
  exact ev_step (fun _ => impl_isName.l0.eq_2 ..) (ev_neg (by omega) (ev_now _))
 ·intro i h ih
  refine ev_step (fun _ => impl_isName.l0.eq_2 ..) (ev_pos (by omega) (ev_pos (by omega) (ev_pos (by omega) ?_)))
  rw [bt_at h,Y_drop h,List.all_cons,w64n h hs]
  refine ev_bind (ev_eq (word_impl _)) (ev_ite (fun h1 => ?_) (fun h1 => ?_))
  ·rw [h1]
   exact ih
  ·rw [Bool.eq_false_iff.2 h1]
   exact ev_now _
theorem name_loop_spec (s : ByteArray) (hs : s.size ≤ 9223372036854775807) : Ev (fun k => spec_l2Name.l0 k s 0) ((Y s).all wordC):=by
 refine up_ind s.size (fun i => Ev (fun k => spec_l2Name.l0 k s (i : Int)) (((Y s).drop i).all wordC)) ?_ ?_ 0 (by omega)
 ·rw [Y_drop_end]
  exact ev_step (fun _ => spec_l2Name.l0.eq_2 ..) (ev_neg (by omega) (ev_now _))
 ·intro i h ih
  refine ev_step (fun _ => spec_l2Name.l0.eq_2 ..) (ev_pos (by omega) (ev_pos (by omega) ?_))
  rw [bt_at h,Y_drop h,List.all_cons,w64n h hs]
  unfold wordC
  refine ev_bind (ev_eq (letter_spec _)) (ev_ite (fun h1 => ?_) (fun h1 => ev_bind (ev_eq (digit_spec _)) (ev_ite (fun h2 => ?_) (fun h2 => ev_ite (fun h3 => ?_) (fun h3 => ?_)))))
  ·rw [h1]
   exact ih
  ·rw [h2,Bool.or_true]
   exact ih
  ·rw [decide_eq_true h3,Bool.or_true]
   exact ih
  ·rw [Bool.eq_false_iff.2 h1,Bool.eq_false_iff.2 h2,decide_eq_false h3]
   exact ev_now _
theorem name_impl (s : ByteArray) (hs : s.size ≤ 9223372036854775807) : Ev (fun k => impl_isName.f k s) (nameL (Y s)):=by
 unfold impl_isName.f nameL
 rw [Y_eq]
 refine ev_ite (fun h => ?_) (fun h => ?_)
 ·rw [h]
  exact ev_step (fun _ => impl_isName.j0.eq_2 ..) (ev_pos rfl (ev_now _))
 ·have hl : 1 ≤ (Y s).length:=by
   cases e : Y s with
   | nil => exact absurd e h
   | cons a l => simp
  rw [decide_eq_true hl,Y_len,Bool.true_and]
  rw [Y_len] at hl
  refine ev_ite (fun h1 => ?_) (fun h1 => ev_pos (by omega) ?_)
  ·rw [decide_eq_false (by omega)]
   exact ev_step (fun _ => impl_isName.j0.eq_2 ..) (ev_pos rfl (ev_now _))
  ·rw [decide_eq_true (by omega),Bool.true_and]
   have e0:=bt_at (s:=s) (i:=0) (by omega)
   have eh : (Y s).head? = some ((Y s)[0]'(by rw [Y_len];omega)):=by rw [List.head?_eq_getElem?,List.getElem?_eq_getElem]
   rw [show bt s 0 = bt s ((0 : Nat) : Int) from rfl,e0,eh]
   refine ev_bind (ev_eq (digit_impl _)) (ev_step (fun _ => impl_isName.j0.eq_2 ..) (ev_ite (fun h2 => ?_) (fun h2 => ?_)))
   ·rw [Option.any_some,h2]
    exact ev_now _
   ·rw [Option.any_some,Bool.eq_false_iff.2 h2]
    exact name_loop_impl s hs
theorem name_spec (s : ByteArray) (hs : s.size ≤ 9223372036854775807) : Ev (fun k => spec_l2Name.f k s) (nameL (Y s)):=by
 unfold spec_l2Name.f nameL
 rw [Y_len]
 refine ev_ite (fun h => ?_) (fun h => ?_)
 ·rw [decide_eq_false (by omega)]
  exact ev_step (fun _ => spec_l2Name.j0.eq_2 ..) (ev_pos rfl (ev_now _))
 ·rw [decide_eq_true (by omega),Bool.true_and]
  refine ev_ite (fun h1 => ?_) (fun h1 => ev_pos (by omega) ?_)
  ·rw [decide_eq_false (by omega)]
   exact ev_step (fun _ => spec_l2Name.j0.eq_2 ..) (ev_pos rfl (ev_now _))
  ·rw [decide_eq_true (by omega),Bool.true_and]
   have e0:=bt_at (s:=s) (i:=0) (by omega)
   have eh : (Y s).head? = some ((Y s)[0]'(by rw [Y_len];omega)):=by rw [List.head?_eq_getElem?,List.getElem?_eq_getElem]
   rw [show bt s 0 = bt s ((0 : Nat) : Int) from rfl,e0,eh]
   refine ev_bind (ev_eq (digit_spec _)) (ev_step (fun _ => spec_l2Name.j0.eq_2 ..) (ev_ite (fun h2 => ?_) (fun h2 => ?_)))
   ·rw [Option.any_some,h2]
    exact ev_now _
   ·rw [Option.any_some,Bool.eq_false_iff.2 h2]
    exact name_loop_spec s hs
end Go.Proofs.Ytfdbbpnmnogddaa.U
namespace Go.Proofs.Ytfdbbpnmnogddaa.U
open Go.RowKit Go.Proofs.Ytfdbbpnmnogddaa.Pr Go.Proofs.YtfdbbpnmnogddaaW.PrintWords Go.Proofs.YtfdbbpnmnogddaaW.PrintLast Go.Proofs.YtfdbbpnmnogddaaW.PrintMore
set_option linter.unusedVariables false
set_option linter.unusedSimpArgs false
def cn (a b : Int) : Int:=if a < b then -1 else if a > b then 1 else 0
theorem cmpNum_spec (a b : Int) : spec_l2CmpNum.f a b = some (cn a b):=by
 unfold spec_l2CmpNum.f cn
 by_cases h : a < b
 ·rw [if_pos h,if_pos h]
 ·rw [if_neg h,if_neg h]
  by_cases h' : a > b
  ·rw [if_pos h',if_pos h']
  ·rw [if_neg h',if_neg h']
theorem less_cmp : ∀ a b : List UInt8,Op.bytesLess a b = decide (cmpL a b < 0)
 | [],[] => rfl
 | [],_ :: _ => rfl
 | _ :: _,[] => rfl
 | a :: l,b :: m => by
  unfold Op.bytesLess cmpL
  rw [less_cmp l m]
  by_cases e : (a.toNat : Int) = (b.toNat : Int)
  ·have : a = b:=UInt8.toNat_inj.1 (by omega)
   subst this
   simp
  ·have hne : (a == b) = false:=by
    rw [beq_eq_false_iff_ne]
    rintro rfl
    exact e rfl
   rw [if_neg e,hne,Bool.false_and,Bool.or_false]
   by_cases h : (a.toNat : Int) < (b.toNat : Int)
   ·rw [if_pos h]
    have : a < b:=UInt8.lt_iff_toNat_lt.2 (by omega)
    simp [this]
   ·rw [if_neg h]
    have : ¬ a < b:=fun h' => h (by have:=UInt8.lt_iff_toNat_lt.1 h';omega)
    simp [this]
theorem cmp_spec (s t : ByteArray) (hs : s.size ≤ 9223372036854775807) (ht : t.size ≤ 9223372036854775807) : Ev (fun k => spec_l2CmpText.f k s t) (cmpL (Y s) (Y t)):=by
 refine up_ind (min s.size t.size) (fun i => Ev (fun k => spec_l2CmpText.l0 k s t (i : Int)) (cmpL ((Y s).drop i) ((Y t).drop i))) ?_ ?_ 0 (by omega)
 ·generalize hm : min s.size t.size = m
  rcases Nat.lt_or_ge m s.size with h|h
  ·have e : m = t.size:=by omega
   refine ev_step (fun _ => spec_l2CmpText.l0.eq_2 ..) (ev_pos (by omega) ?_)
   rw [decide_eq_false (by omega)]
   refine ev_step (fun _ => spec_l2CmpText.j1.eq_2 ..) (ev_neg (by decide) (ev_bind (ev_eq (cmpNum_spec _ _)) ?_))
   rw [Y_drop h,show List.drop m (Y t) = [] from by rw [e,Y_drop_end]]
   unfold cn cmpL
   rw [if_neg (by omega),if_pos (by omega)]
   exact ev_now _
  ·have e : m = s.size:=by omega
   refine ev_step (fun _ => spec_l2CmpText.l0.eq_2 ..) (ev_neg (by omega) ?_)
   refine ev_step (fun _ => spec_l2CmpText.j1.eq_2 ..) (ev_neg (by decide) (ev_bind (ev_eq (cmpNum_spec _ _)) ?_))
   rw [e,Y_drop_end]
   by_cases h2 : s.size < t.size
   ·rw [Y_drop h2]
    unfold cn cmpL
    rw [if_pos (by omega)]
    exact ev_now _
   ·have e2 : s.size = t.size:=by omega
    rw [e2,Y_drop_end]
    unfold cn cmpL
    rw [if_neg (by omega),if_neg (by omega)]
    exact ev_now _
 ·intro i h ih
  have h1 : i < s.size:=by omega
  have h2 : i < t.size:=by omega
  refine ev_step (fun _ => spec_l2CmpText.l0.eq_2 ..) (ev_pos (by omega) ?_)
  rw [decide_eq_true (by omega)]
  refine ev_step (fun _ => spec_l2CmpText.j1.eq_2 ..) (ev_pos rfl (ev_pos (by omega) (ev_pos (by omega) (ev_pos (by omega) ?_))))
  rw [bt_at h1,bt_at h2,Y_drop h1,Y_drop h2,w64n h1 hs]
  have a1:=((Y s)[i]'(by rw [Y_len];exact h1)).toNat_lt
  have a2:=((Y t)[i]'(by rw [Y_len];exact h2)).toNat_lt
  rw [w64 (x:=(((Y s)[i]'(by rw [Y_len];exact h1)).toNat : Int)) (by omega) (by omega),w64 (x:=(((Y t)[i]'(by rw [Y_len];exact h2)).toNat : Int)) (by omega) (by omega)]
  unfold cmpL
  refine ev_ite (fun h3 => ?_) (fun h3 => ?_)
  ·rw [if_pos h3]
   exact ih
  ·rw [if_neg h3]
   refine ev_bind (ev_eq (cmpNum_spec _ _)) ?_
   unfold cn
   by_cases h4 : (((Y s)[i]'(by rw [Y_len];exact h1)).toNat : Int) < (((Y t)[i]'(by rw [Y_len];exact h2)).toNat : Int)
   ·rw [if_pos h4,if_pos h4]
    exact ev_now _
   ·rw [if_neg h4,if_neg h4,if_pos (by omega)]
    exact ev_now _
end Go.Proofs.Ytfdbbpnmnogddaa.U
namespace Go.Proofs.Ytfdbbpnmnogddaa.U
open Go.RowKit Go.Proofs.Ytfdbbpnmnogddaa.Pr Go.Proofs.YtfdbbpnmnogddaaW.PrintWords Go.Proofs.YtfdbbpnmnogddaaW.PrintLast Go.Proofs.YtfdbbpnmnogddaaW.PrintMore
set_option linter.unusedVariables false
set_option linter.unusedSimpArgs false
theorem value_spec (s : ByteArray) (hs : s.size ≤ 9223372036854775807) : Ev (fun k => spec_l2Value.f k s) (valL (Y s)):=by
 unfold spec_l2Value.f valL prL
 rw [Y_len]
 refine ev_ite (fun h => ev_ite (fun h1 => ?_) (fun h1 => ?_)) (fun h => ?_)
 ·rw [decide_eq_true (by omega),decide_eq_true (by omega),Bool.true_and,Bool.true_and]
  exact ev_bind (printed_spec s hs) (ev_now _)
 ·rw [decide_eq_false (show ¬ s.size ≤ 100 from by omega),Bool.false_and,Bool.and_false]
  exact ev_now _
 ·rw [decide_eq_false (by omega),Bool.false_and]
  exact ev_now _
theorem value_impl (s : ByteArray) (hs : s.size ≤ 9223372036854775807) : Ev (fun k => impl_isValue.f k s) (valL (Y s)):=by
 unfold impl_isValue.f valL
 rw [Y_eq,]
 refine ev_ite (fun h => ?_) (fun h => ?_)
 ·rw [h]
  exact ev_now _
 ·have : 1 ≤ (Y s).length:=by
   cases e : Y s with
   | nil => exact absurd e h
   | cons a l => simp
  rw [decide_eq_true this,Bool.true_and]
  exact ev_bind (printed_impl s hs 100) (ev_now _)
end Go.Proofs.Ytfdbbpnmnogddaa.U
namespace Go.Proofs.Ytfdbbpnmnogddaa.U
open Go.RowKit Go.Proofs.Ytfdbbpnmnogddaa.Pr Go.Proofs.YtfdbbpnmnogddaaW.PrintWords Go.Proofs.YtfdbbpnmnogddaaW.PrintLast Go.Proofs.YtfdbbpnmnogddaaW.PrintMore
set_option linter.unusedVariables false
set_option linter.unusedSimpArgs false
def before (p : Option (List UInt8)) (l : List UInt8) : Bool:=match p with
 | none => true
 | some q => decide (cmpL q l < 0)
def riseL (p : Option (List UInt8)) : List S56 → Bool
 | [] => true
 | x :: xs => nameL (Y x.f0) && valL (Y x.f1) && before p (Y x.f0) && riseL (some (Y x.f0)) xs
def goodL (l : List S56) : Bool:=decide (l.length ≤ 20) && riseL none l
def ptL (l : List S56) (i : Nat) : Option (List UInt8):=if i = 0 then none else some (Y (rd_T56 l ((i - 1 : Nat) : Int)).f0)
def fitL (l : List S56) : Prop:=l.length ≤ 9223372036854775807 ∧ ∀ x ∈ l,x.f0.size ≤ 9223372036854775807 ∧ x.f1.size ≤ 9223372036854775807
theorem goodLabels_impl_l (l : List S56) (hf : fitL l) : Ev (fun k => impl_GoodLabels.l0 k l l (l.length : Int) 0) (riseL none l):=by
 obtain ⟨hl,hw⟩:=hf
 have hrd : ∀ (i : Nat) (h : i < l.length),rd_T56 l (i : Int) = l[i]:=fun i h => getD_lt h
 refine up_ind l.length (fun i => Ev (fun k => impl_GoodLabels.l0 k l l (l.length : Int) (i : Int)) (riseL (ptL l i) (l.drop i))) ?_ ?_ 0 (by omega)
 ·rw [List.drop_length]
  exact ev_step (fun _ => impl_GoodLabels.l0.eq_2 ..) (ev_neg (by omega) (ev_now _))
 ·intro i h ih
  have hp : ptL l (i + 1) = some (Y l[i].f0):=by unfold ptL;rw [if_neg (by omega),Nat.add_sub_cancel,hrd i h]
  rw [hp] at ih
  obtain ⟨w1,w2⟩:=hw l[i] (List.getElem_mem h)
  have wi : wrap64 ((i : Int) + 1) = ((i + 1 : Nat) : Int):=w64n h hl
  refine ev_step (fun _ => impl_GoodLabels.l0.eq_2 ..) (ev_pos (by omega) (ev_pos (by omega) (ev_pos (by omega) ?_)))
  rw [hrd i h,List.drop_eq_getElem_cons h]
  simp only [riseL]
  refine ev_bind (name_impl _ w1) (ev_ite (fun h1 => ev_bind (value_impl _ w2) (ev_ite (fun h2 => ?_) (fun h2 => ?_))) (fun h1 => ?_))
  ·rw [h1,h2,Bool.true_and,Bool.true_and]
   by_cases hi : i = 0
   ·subst hi
    rw [wi]
    exact ev_neg (by omega) ih
   ·have wm : wrap64 ((i : Int) - 1) = ((i - 1 : Nat) : Int):=by rw [w64 (by omega) (by omega)];omega
    have hq : ptL l i = some (Y l[i - 1].f0):=by unfold ptL;rw [if_neg hi,hrd (i - 1) (by omega)]
    obtain ⟨w3,_⟩:=hw l[i - 1] (List.getElem_mem (by omega))
    rw [wm,hrd (i - 1) (by omega),hq,wi]
    refine ev_pos (by omega) (ev_pos (by omega) (ev_pos (by omega) ?_))
    simp only [before]
    rw [Y_eq,Y_eq,less_cmp]
    refine ev_ite (fun h3 => ?_) (fun h3 => ?_)
    ·rw [h3,Bool.true_and]
     exact ih
    ·rw [Bool.eq_false_iff.2 h3,Bool.false_and]
     exact ev_now _
  ·rw [h1,Bool.eq_false_iff.2 h2]
   exact ev_now _
  ·rw [Bool.eq_false_iff.2 h1]
   exact ev_now _
theorem goodLabels_impl (l : List S56) (hf : fitL l) : Ev (fun k => impl_GoodLabels.f k l) (goodL l):=by
 unfold impl_GoodLabels.f goodL
 refine ev_ite (fun h => ?_) (fun h => ?_)
 ·rw [decide_eq_false (by omega)]
  exact ev_now _
 ·rw [decide_eq_true (by omega),Bool.true_and]
  exact goodLabels_impl_l l hf
theorem goodLabels_spec_l (l : List S56) (hf : fitL l) : Ev (fun k => spec_GoodLabels.l0 k l l (l.length : Int) 0) (riseL none l):=by
 obtain ⟨hl,hw⟩:=hf
 have hrd : ∀ (i : Nat) (h : i < l.length),rd_T56 l (i : Int) = l[i]:=fun i h => getD_lt h
 refine up_ind l.length (fun i => Ev (fun k => spec_GoodLabels.l0 k l l (l.length : Int) (i : Int)) (riseL (ptL l i) (l.drop i))) ?_ ?_ 0 (by omega)
 ·rw [List.drop_length]
  exact ev_step (fun _ => spec_GoodLabels.l0.eq_2 ..) (ev_neg (by omega) (ev_now _))
 ·intro i h ih
  have hp : ptL l (i + 1) = some (Y l[i].f0):=by unfold ptL;rw [if_neg (by omega),Nat.add_sub_cancel,hrd i h]
  rw [hp] at ih
  obtain ⟨w1,w2⟩:=hw l[i] (List.getElem_mem h)
  have wi : wrap64 ((i : Int) + 1) = ((i + 1 : Nat) : Int):=w64n h hl
  refine ev_step (fun _ => spec_GoodLabels.l0.eq_2 ..) (ev_pos (by omega) (ev_pos (by omega) (ev_pos (by omega) ?_)))
  rw [hrd i h,List.drop_eq_getElem_cons h]
  simp only [riseL]
  refine ev_bind (name_spec _ w1) (ev_ite (fun h1 => ev_bind (value_spec _ w2) (ev_ite (fun h2 => ?_) (fun h2 => ?_))) (fun h1 => ?_))
  ·rw [h1,h2,Bool.true_and,Bool.true_and]
   by_cases hi : i = 0
   ·subst hi
    rw [wi]
    exact ev_neg (by omega) ih
   ·have wm : wrap64 ((i : Int) - 1) = ((i - 1 : Nat) : Int):=by rw [w64 (by omega) (by omega)];omega
    have hq : ptL l i = some (Y l[i - 1].f0):=by unfold ptL;rw [if_neg hi,hrd (i - 1) (by omega)]
    obtain ⟨w3,_⟩:=hw l[i - 1] (List.getElem_mem (by omega))
    rw [wm,hrd (i - 1) (by omega),hq,wi]
    refine ev_pos (by omega) (ev_pos (by omega) (ev_pos (by omega) ?_))
    simp only [before]
    refine ev_bind (cmp_spec _ _ w3 w1) (ev_ite (fun h3 => ?_) (fun h3 => ?_))
    ·rw [decide_eq_false (by omega),Bool.false_and]
     exact ev_now _
    ·rw [decide_eq_true (by omega),Bool.true_and]
     exact ih
  ·rw [h1,Bool.eq_false_iff.2 h2]
   exact ev_now _
  ·rw [Bool.eq_false_iff.2 h1]
   exact ev_now _
theorem goodLabels_spec (l : List S56) (hf : fitL l) : Ev (fun k => spec_GoodLabels.f k l) (goodL l):=by
 unfold spec_GoodLabels.f goodL
 refine ev_ite (fun h => ?_) (fun h => ?_)
 ·rw [decide_eq_false (by omega)]
  exact ev_now _
 ·rw [decide_eq_true (by omega),Bool.true_and]
  exact goodLabels_spec_l l hf
end Go.Proofs.Ytfdbbpnmnogddaa.U
namespace Go.Proofs.Ytfdbbpnmnogddaa.U
open Go.RowKit Go.Proofs.Ytfdbbpnmnogddaa.Pr Go.Proofs.YtfdbbpnmnogddaaW.PrintWords Go.Proofs.YtfdbbpnmnogddaaW.PrintLast Go.Proofs.YtfdbbpnmnogddaaW.PrintMore
set_option linter.unusedVariables false
set_option linter.unusedSimpArgs false
theorem cmpL_neg : ∀ a b : List UInt8,cmpL b a = - cmpL a b
 | [],[] => rfl
 | [],_ :: _ => rfl
 | _ :: _,[] => rfl
 | a :: l,b :: m => by
  simp only [cmpL]
  by_cases e : (a.toNat : Int) = (b.toNat : Int)
  ·rw [if_pos e,if_pos e.symm]
   exact cmpL_neg l m
  ·rw [if_neg e,if_neg (fun h => e h.symm)]
   by_cases h : (a.toNat : Int) < (b.toNat : Int)
   ·rw [if_pos h,if_neg (by omega)]
    rfl
   ·rw [if_neg h,if_pos (by omega)]
theorem cmpL_cases : ∀ a b : List UInt8,cmpL a b = -1 ∨ cmpL a b = 0 ∨ cmpL a b = 1
 | [],[] => .inr (.inl rfl)
 | [],_ :: _ => .inl rfl
 | _ :: _,[] => .inr (.inr rfl)
 | a :: l,b :: m => by
  simp only [cmpL]
  by_cases e : (a.toNat : Int) = (b.toNat : Int)
  ·rw [if_pos e]
   exact cmpL_cases l m
  ·rw [if_neg e]
   by_cases h : (a.toNat : Int) < (b.toNat : Int)
   ·rw [if_pos h]
    exact .inl rfl
   ·rw [if_neg h]
    exact .inr (.inr rfl)
end Go.Proofs.Ytfdbbpnmnogddaa.U
namespace Go.Proofs.Ytfdbbpnmnogddaa.U
open Go.RowKit Go.Proofs.Ytfdbbpnmnogddaa.Pr Go.Proofs.YtfdbbpnmnogddaaW.PrintWords Go.Proofs.YtfdbbpnmnogddaaW.PrintLast Go.Proofs.YtfdbbpnmnogddaaW.PrintMore
set_option linter.unusedVariables false
set_option linter.unusedSimpArgs false
theorem cmpL_eq : ∀ a b : List UInt8,cmpL a b = 0 → a = b
 | [],[] => fun _ => rfl
 | [],_ :: _ => fun h => absurd h (by simp [cmpL])
 | _ :: _,[] => fun h => absurd h (by simp [cmpL])
 | a :: l,b :: m => by
  intro h
  simp only [cmpL] at h
  by_cases e : (a.toNat : Int) = (b.toNat : Int)
  ·rw [if_pos e] at h
   rw [cmpL_eq l m h,UInt8.toNat_inj.1 (show a.toNat = b.toNat by omega)]
  ·rw [if_neg e] at h
   split at h <;> omega
theorem cmpL_self : ∀ a : List UInt8,cmpL a a = 0
 | [] => rfl
 | a :: l => by
  simp only [cmpL]
  rw [if_pos trivial]
  exact cmpL_self l
theorem cmpL_trans : ∀ a b c : List UInt8,cmpL a b ≤ 0 → cmpL b c ≤ 0 → cmpL a c ≤ 0 ∧ (cmpL a b < 0 ∨ cmpL b c < 0 → cmpL a c < 0)
 | [],[],_ => fun _ h => ⟨h,fun h2 => h2.elim (fun h3 => absurd h3 (by simp [cmpL])) id⟩
 | [],_ :: _,[] => fun _ h => absurd h (by simp [cmpL])
 | [],_ :: _,_ :: _ => fun _ _ => ⟨by simp [cmpL],fun _ => by simp [cmpL]⟩
 | _ :: _,[],_ => fun h => absurd h (by simp [cmpL])
 | _ :: _,_ :: _,[] => fun _ h => absurd h (by simp [cmpL])
 | x :: a,y :: b,z :: c => by
  have ih:=cmpL_trans a b c
  simp only [cmpL]
  by_cases h1 : (x.toNat : Int) = (y.toNat : Int)
  ·rw [if_pos h1]
   by_cases h2 : (y.toNat : Int) = (z.toNat : Int)
   ·rw [if_pos h2,if_pos (h1.trans h2)]
    exact ih
   ·rw [if_neg h2,if_neg (show ¬ (x.toNat : Int) = (z.toNat : Int) by omega)]
    by_cases h3 : (y.toNat : Int) < (z.toNat : Int)
    ·rw [if_pos h3,if_pos (show (x.toNat : Int) < (z.toNat : Int) by omega)]
     exact fun _ _ => ⟨by omega,fun _ => by omega⟩
    ·rw [if_neg h3]
     intro _ h
     omega
  ·rw [if_neg h1]
   by_cases h3 : (x.toNat : Int) < (y.toNat : Int)
   ·rw [if_pos h3]
    by_cases h2 : (y.toNat : Int) = (z.toNat : Int)
    ·rw [if_neg (show ¬ (x.toNat : Int) = (z.toNat : Int) by omega),if_pos (show (x.toNat : Int) < (z.toNat : Int) by omega)]
     exact fun _ _ => ⟨by omega,fun _ => by omega⟩
    ·rw [if_neg h2]
     by_cases h4 : (y.toNat : Int) < (z.toNat : Int)
     ·rw [if_neg (show ¬ (x.toNat : Int) = (z.toNat : Int) by omega),if_pos (show (x.toNat : Int) < (z.toNat : Int) by omega)]
      exact fun _ _ => ⟨by omega,fun _ => by omega⟩
     ·rw [if_neg h4]
      intro _ h
      omega
   ·rw [if_neg h3]
    intro h
    omega
end Go.Proofs.Ytfdbbpnmnogddaa.U
namespace Go.Proofs.Ytfdbbpnmnogddaa.U
open Go.RowKit Go.Proofs.Ytfdbbpnmnogddaa.Pr Go.Proofs.YtfdbbpnmnogddaaW.PrintWords Go.Proofs.YtfdbbpnmnogddaaW.PrintLast Go.Proofs.YtfdbbpnmnogddaaW.PrintMore
set_option linter.unusedVariables false
set_option linter.unusedSimpArgs false
theorem riseL_all : ∀ (l : List S56) (p : Option (List UInt8)),riseL p l = true → ∀ x ∈ l,nameL (Y x.f0) = true ∧ valL (Y x.f1) = true:=by
 intro l
 induction l with
 | nil => intro p _ x hx;cases hx
 | cons y ys ih =>
  intro p h x hx
  simp only [riseL,Bool.and_eq_true] at h
  rcases List.mem_cons.1 hx with rfl|hx
  ·exact ⟨h.1.1.1,h.1.1.2⟩
  ·exact ih _ h.2 x hx
theorem goodL_all {l : List S56} (h : goodL l = true) : l.length ≤ 20 ∧ ∀ x ∈ l,x.f0.size ≤ 40 ∧ x.f1.size ≤ 100:=by
 unfold goodL at h
 rw [Bool.and_eq_true,decide_eq_true_eq] at h
 refine ⟨h.1,fun x hx => ?_⟩
 obtain ⟨h1,h2⟩:=riseL_all l none h.2 x hx
 simp only [nameL,valL,prL,Bool.and_eq_true,decide_eq_true_eq,Y_len] at h1 h2
 exact ⟨h1.1.1.2,h2.2.1⟩
end Go.Proofs.Ytfdbbpnmnogddaa.U
namespace Go.Proofs.Ytfdbbpnmnogddaa.U
open Go.RowKit Go.Proofs.Ytfdbbpnmnogddaa.Pr Go.Proofs.YtfdbbpnmnogddaaW.PrintWords Go.Proofs.YtfdbbpnmnogddaaW.PrintLast Go.Proofs.YtfdbbpnmnogddaaW.PrintMore
set_option linter.unusedVariables false
set_option linter.unusedSimpArgs false
def ofL (n : ByteArray) : List S56 → ByteArray
 | [] => ⟨#[]⟩
 | x :: xs => if Y x.f0 = Y n then x.f1 else ofL n xs
end Go.Proofs.Ytfdbbpnmnogddaa.U
namespace Go.Proofs.Ytfdbbpnmnogddaa.U
open Go.RowKit Go.Proofs.Ytfdbbpnmnogddaa.Pr Go.Proofs.YtfdbbpnmnogddaaW.PrintWords Go.Proofs.YtfdbbpnmnogddaaW.PrintLast Go.Proofs.YtfdbbpnmnogddaaW.PrintMore
set_option linter.unusedVariables false
set_option linter.unusedSimpArgs false
theorem of_impl (l : List S56) (hl : l.length ≤ 9223372036854775807) (n : ByteArray) : Ev (fun k => impl_valueOf.f k l n) (ofL n l):=by
 have hrd : ∀ (i : Nat) (h : i < l.length),rd_T56 l (i : Int) = l[i]:=fun i h => getD_lt h
 refine up_ind l.length (fun i => Ev (fun k => impl_valueOf.l0 k n l (l.length : Int) (i : Int)) (ofL n (l.drop i))) ?_ ?_ 0 (by omega)
 ·rw [List.drop_length]
  exact ev_step (fun _ => impl_valueOf.l0.eq_2 ..) (ev_neg (by omega) (ev_now _))
 ·intro i h ih
  refine ev_step (fun _ => impl_valueOf.l0.eq_2 ..) (ev_pos (by omega) (ev_pos (by omega) (ev_pos (by omega) ?_)))
  rw [hrd i h,List.drop_eq_getElem_cons h,w64n h hl,Y_eq,Y_eq]
  simp only [ofL]
  refine ev_ite (fun h1 => ?_) (fun h1 => ?_)
  ·rw [if_pos h1]
   exact ev_now _
  ·rw [if_neg h1]
   exact ih
end Go.Proofs.Ytfdbbpnmnogddaa.U
namespace Go.Proofs.Ytfdbbpnmnogddaa.U
open Go.RowKit Go.Proofs.Ytfdbbpnmnogddaa.Pr Go.Proofs.YtfdbbpnmnogddaaW.PrintWords Go.Proofs.YtfdbbpnmnogddaaW.PrintLast Go.Proofs.YtfdbbpnmnogddaaW.PrintMore
set_option linter.unusedVariables false
set_option linter.unusedSimpArgs false
theorem of_spec (l : List S56) (hl : l.length ≤ 9223372036854775807) (n : ByteArray) : Ev (fun k => spec_l2Of.f k l n) (ofL n l):=by
 have hrd : ∀ (i : Nat) (h : i < l.length),rd_T56 l (i : Int) = l[i]:=fun i h => getD_lt h
 refine up_ind l.length (fun i => Ev (fun k => spec_l2Of.l0 k n l (l.length : Int) (i : Int)) (ofL n (l.drop i))) ?_ ?_ 0 (by omega)
 ·rw [List.drop_length]
  exact ev_step (fun _ => spec_l2Of.l0.eq_2 ..) (ev_neg (by omega) (ev_now _))
 ·intro i h ih
  refine ev_step (fun _ => spec_l2Of.l0.eq_2 ..) (ev_pos (by omega) (ev_pos (by omega) (ev_pos (by omega) ?_)))
  rw [hrd i h,List.drop_eq_getElem_cons h,w64n h hl,Y_eq,Y_eq]
  simp only [ofL]
  refine ev_ite (fun h1 => ?_) (fun h1 => ?_)
  ·rw [if_pos h1]
   exact ev_now _
  ·rw [if_neg h1]
   exact ih
end Go.Proofs.Ytfdbbpnmnogddaa.U
namespace Go.Proofs.Ytfdbbpnmnogddaa.U
open Go.RowKit Go.Proofs.Ytfdbbpnmnogddaa.Pr Go.Proofs.YtfdbbpnmnogddaaW.PrintWords Go.Proofs.YtfdbbpnmnogddaaW.PrintLast Go.Proofs.YtfdbbpnmnogddaaW.PrintMore
set_option linter.unusedVariables false
set_option linter.unusedSimpArgs false
def withL (n v : ByteArray) : List S56 → Bool → List S56 → List S56
 | acc,p,[] => if p = true then acc else acc ++ [⟨n,v⟩]
 | acc,p,x :: xs =>
  if (!p && !(Op.bytesLess x.f0.toList n.toList)) = true then (if x.f0.toList = n.toList then withL n v (acc ++ [⟨n,v⟩]) true xs else withL n v (acc ++ [⟨n,v⟩] ++ [x]) true xs)
  else (if x.f0.toList = n.toList then withL n v acc p xs else withL n v (acc ++ [x]) p xs)
theorem ev_ite2 {α : Type} {c : Prop} [d1 : Decidable c] [d2 : Decidable c] {f g : Nat → Option α} {a b : α} (h1 : c → Ev f a) (h2 : ¬ c → Ev g b) : Ev (fun k => if c then f k else g k) (if c then a else b):=by
 by_cases h : c
 ·rw [if_pos h];exact ev_pos h (h1 h)
 ·rw [if_neg h];exact ev_neg h (h2 h)
theorem notless_cmp (a b : ByteArray) : decide (cmpL (Y a) (Y b) ≤ 0) = !(Op.bytesLess b.toList a.toList):=by
 rw [Y_eq,Y_eq,less_cmp,cmpL_neg (Y a) (Y b)]
 by_cases h : cmpL (Y a) (Y b) ≤ 0
 ·rw [decide_eq_true h,decide_eq_false (by omega)];rfl
 ·rw [decide_eq_false h,decide_eq_true (by omega)];rfl
theorem with_spec (l : List S56) (hf : fitL l) (hl : l.length ≤ 1048576) (n v : ByteArray) (hn : n.size ≤ 9223372036854775807) (p : Bool) : Ev (fun k => spec_l2With.l0 k n v [] p l (l.length : Int) 0) (withL n v [] p l):=by
 have hrd : ∀ (i : Nat) (h : i < l.length),rd_T56 l (i : Int) = l[i]:=fun i h => getD_lt h
 refine up_ind l.length (fun i => ∀ (acc : List S56) (p : Bool),acc.length + 2 * (l.length - i) ≤ 4000000 → Ev (fun k => spec_l2With.l0 k n v acc p l (l.length : Int) (i : Int)) (withL n v acc p (l.drop i))) ?_ ?_ 0 (by omega) [] p (by simp;omega)
 ·intro acc p hb
  rw [List.drop_length]
  refine ev_step (fun _ => spec_l2With.l0.eq_2 ..) (ev_neg (by omega) ?_)
  simp only [withL]
  exact ev_ite2 (fun _ => ev_now _) (fun _ => ev_pos (by omega) (ev_now _))
 ·intro i h ih acc p hb
  have wi : wrap64 ((i : Int) + 1) = ((i + 1 : Nat) : Int):=w64n h (by omega)
  refine ev_step (fun _ => spec_l2With.l0.eq_2 ..) (ev_pos (by omega) (ev_pos (by omega) (ev_pos (by omega) ?_)))
  rw [hrd i h,List.drop_eq_getElem_cons h]
  simp only [withL]
  cases p with
  | true =>
   refine ev_pos rfl (ev_step (fun _ => spec_l2With.j1.eq_2 ..) (ev_neg (by decide) ?_))
   rw [if_neg (by simp),wi]
   exact ev_ite2 (fun _ => ih acc true (by omega)) (fun _ => ev_pos (by omega) (ih _ true (by simp only [List.length_append,List.length_cons,List.length_nil];omega)))
  | false =>
   refine ev_neg (by decide) (ev_bind (cmp_spec _ _ hn (hf.2 l[i] (List.getElem_mem h)).1) (ev_step (fun _ => spec_l2With.j1.eq_2 ..) ?_))
   rw [notless_cmp,Bool.not_false,Bool.true_and,wi]
   refine ev_ite2 (fun _ => ?_) (fun _ => ?_)
   ·refine ev_pos (by omega) (ev_bind (ev_now _) ?_)
    exact ev_ite2 (fun _ => ih _ true (by simp only [List.length_append,List.length_cons,List.length_nil];omega)) (fun _ => ev_pos (by simp only [List.length_append,List.length_cons,List.length_nil];omega) (ih _ true (by simp only [List.length_append,List.length_cons,List.length_nil];omega)))
   ·exact ev_ite2 (fun _ => ih acc false (by omega)) (fun _ => ev_pos (by omega) (ih _ false (by simp only [List.length_append,List.length_cons,List.length_nil];omega)))
end Go.Proofs.Ytfdbbpnmnogddaa.U
namespace Go.Proofs.Ytfdbbpnmnogddaa.U
open Go.RowKit Go.Proofs.Ytfdbbpnmnogddaa.Pr Go.Proofs.YtfdbbpnmnogddaaW.PrintWords Go.Proofs.YtfdbbpnmnogddaaW.PrintLast Go.Proofs.YtfdbbpnmnogddaaW.PrintMore
set_option linter.unusedVariables false
set_option linter.unusedSimpArgs false
theorem mid_ {x y : Int} (h0 : 0 ≤ x + y) (h1 : x + y ≤ 4611686018427387904) : wrap64 ((IntKind.u64.wrap (wrap64 (x + y))) / 2) = (x + y) / 2:=by
 rw [w64 (x:=x + y) (by omega) (by omega),wu64,Int.emod_eq_of_lt h0 (by omega),w64 (by omega) (by omega)]
theorem swap_ev (L : Nat) (hL : L ≤ 1048576) (a b c : Int) (n : Nat) (ha : 0 ≤ a) (hb : 0 ≤ b) (hna : a + n ≤ L) (hnb : b + n ≤ L) : ∀ i,i ≤ n → ∀ xs : List S56,xs.length = L → ∃ ys : List S56,ys.length = L ∧ Ev (fun k => impl_Label_134.l0 k xs a b (n : Int) (i : Int)) ys:=by
 refine up_ind n _ ?_ ?_
 ·intro xs hx
  exact ⟨xs,hx,ev_step (fun _ => impl_Label_134.l0.eq_2 ..) (ev_neg (by omega) (ev_now _))⟩
 ·intro i hi ih xs hx
  have e1 : wrap64 (b + (i : Int)) = b + i:=w64 (by omega) (by omega)
  have e2 : wrap64 (a + (i : Int)) = a + i:=w64 (by omega) (by omega)
  obtain ⟨ys,h1,h2⟩:=ih ((xs.set (a + (i : Int)).toNat ⟨(rd_T56 xs (b + (i : Int))).f0,(rd_T56 xs (b + (i : Int))).f1⟩).set (b + (i : Int)).toNat ⟨(rd_T56 xs (a + (i : Int))).f0,(rd_T56 xs (a + (i : Int))).f1⟩) (by rw [List.length_set,List.length_set];exact hx)
  rw [← w64n (show i < n from hi) (by omega)] at h2
  refine ⟨ys,h1,ev_step (fun _ => impl_Label_134.l0.eq_2 ..) (ev_pos (by omega) ?_)⟩
  rw [e1,e2]
  exact ev_pos (by omega) (ev_pos (by omega) (ev_pos (by omega) (ev_pos (by omega) h2)))
theorem swapf_ev (L : Nat) (hL : L ≤ 1048576) (a b c n : Int) (ha : 0 ≤ a) (hb : 0 ≤ b) (hn : 0 ≤ n) (hna : a + n ≤ L) (hnb : b + n ≤ L) (xs : List S56) (hx : xs.length = L) : ∃ ys : List S56,ys.length = L ∧ Ev (fun k => impl_Label_134.f k xs a b n c) ys:=by
 obtain ⟨m,rfl⟩:=Int.eq_ofNat_of_zero_le hn
 exact swap_ev L hL a b c m ha hb hna hnb 0 (by omega) xs hx
theorem rot_ev (L : Nat) (hL : L ≤ 1048576) (m c : Int) : ∀ (d : Nat) (i j : Int) (xs : List S56),i + j ≤ d → 0 < i → 0 < j → i ≤ m → m + j ≤ L → xs.length = L → ∃ ys : List S56,ys.length = L ∧ Ev (fun k => impl_Label_131.l0 k xs m c i j) ys:=by
 intro d
 induction d with
 | zero => intro i j xs h1 h2 h3;omega
 | succ d ih =>
  intro i j xs h1 h2 h3 h4 h5 hx
  have e1 : wrap64 (m - i) = m - i:=w64 (by omega) (by omega)
  by_cases c1 : i = j
  ·obtain ⟨ys,y1,y2⟩:=swapf_ev L hL (m - i) m c i (by omega) (by omega) (by omega) (by omega) (by omega) xs hx
   refine ⟨ys,y1,ev_step (fun _ => impl_Label_131.l0.eq_2 ..) (ev_pos c1 ?_)⟩
   rw [e1]
   exact ev_bind y2 (ev_now _)
  ·by_cases c2 : i > j
   ·obtain ⟨ys,y1,y2⟩:=swapf_ev L hL (m - i) m c j (by omega) (by omega) (by omega) (by omega) (by omega) xs hx
    obtain ⟨zs,z1,z2⟩:=ih (i - j) j ys (by omega) (by omega) h3 (by omega) h5 y1
    refine ⟨zs,z1,ev_step (fun _ => impl_Label_131.l0.eq_2 ..) (ev_neg c1 (ev_pos c2 ?_))⟩
    rw [e1,w64 (x:=i - j) (by omega) (by omega)]
    exact ev_bind y2 z2
   ·obtain ⟨ys,y1,y2⟩:=swapf_ev L hL (m - i) (m + j - i) c i (by omega) (by omega) (by omega) (by omega) (by omega) xs hx
    obtain ⟨zs,z1,z2⟩:=ih i (j - i) ys (by omega) h2 (by omega) h4 (by omega) y1
    refine ⟨zs,z1,ev_step (fun _ => impl_Label_131.l0.eq_2 ..) (ev_neg c1 (ev_neg c2 ?_))⟩
    rw [e1,w64 (x:=m + j) (by omega) (by omega),w64 (x:=m + j - i) (by omega) (by omega),w64 (x:=j - i) (by omega) (by omega)]
    exact ev_bind y2 z2
theorem sl1 (L : Nat) (hL : L ≤ 1048576) (i : Int) (hi : i ≤ L) (hi0 : 0 ≤ i) : ∀ (d : Nat) (q : Int) (xs : List S56),i - q ≤ d → 0 ≤ q → xs.length = L → ∃ ys : List S56,ys.length = L ∧ Ev (fun k => impl_Label_122.l1 k xs i q) ys:=by
 have e0 : wrap64 (i - 1) = i - 1:=w64 (by omega) (by omega)
 intro d
 induction d with
 | zero =>
  intro q xs h1 h2 hx
  exact ⟨xs,hx,ev_step (fun _ => impl_Label_122.l1.eq_2 ..) (by rw [e0];exact ev_neg (by omega) (ev_now _))⟩
 | succ d ih =>
  intro q xs h1 h2 hx
  by_cases c1 : q < i - 1
  ·have e1 : wrap64 (q + 1) = q + 1:=w64 (by omega) (by omega)
   obtain ⟨ys,y1,y2⟩:=ih (q + 1) ((xs.set q.toNat ⟨(rd_T56 xs (q + 1)).f0,(rd_T56 xs (q + 1)).f1⟩).set (q + 1).toNat ⟨(rd_T56 xs q).f0,(rd_T56 xs q).f1⟩) (by omega) (by omega) (by rw [List.length_set,List.length_set];exact hx)
   refine ⟨ys,y1,ev_step (fun _ => impl_Label_122.l1.eq_2 ..) ?_⟩
   rw [e0,e1]
   exact ev_pos c1 (ev_pos (by omega) (ev_pos (by omega) (ev_pos (by omega) (ev_pos (by omega) y2))))
  ·exact ⟨xs,hx,ev_step (fun _ => impl_Label_122.l1.eq_2 ..) (by rw [e0];exact ev_neg c1 (ev_now _))⟩
theorem sl3 (L : Nat) (hL : L ≤ 1048576) (i : Int) (hi0 : 0 ≤ i) : ∀ (d : Nat) (q : Int) (xs : List S56),q - i ≤ d → q < L → xs.length = L → ∃ ys : List S56,ys.length = L ∧ Ev (fun k => impl_Label_122.l3 k xs i q) ys:=by
 intro d
 induction d with
 | zero =>
  intro q xs h1 h2 hx
  exact ⟨xs,hx,ev_step (fun _ => impl_Label_122.l3.eq_2 ..) (ev_neg (by omega) (ev_now _))⟩
 | succ d ih =>
  intro q xs h1 h2 hx
  by_cases c1 : q > i
  ·have e1 : wrap64 (q - 1) = q - 1:=w64 (by omega) (by omega)
   obtain ⟨ys,y1,y2⟩:=ih (q - 1) ((xs.set q.toNat ⟨(rd_T56 xs (q - 1)).f0,(rd_T56 xs (q - 1)).f1⟩).set (q - 1).toNat ⟨(rd_T56 xs q).f0,(rd_T56 xs q).f1⟩) (by omega) (by omega) (by rw [List.length_set,List.length_set];exact hx)
   refine ⟨ys,y1,ev_step (fun _ => impl_Label_122.l3.eq_2 ..) ?_⟩
   rw [e1]
   exact ev_pos c1 (ev_pos (by omega) (ev_pos (by omega) (ev_pos (by omega) (ev_pos (by omega) y2))))
  ·exact ⟨xs,hx,ev_step (fun _ => impl_Label_122.l3.eq_2 ..) (ev_neg c1 (ev_now _))⟩
theorem sl0 (L : Nat) (hL : L ≤ 1048576) (a : Int) (ha0 : 0 ≤ a) (ha : a < L) (xs : List S56) (hx : xs.length = L) : ∀ (d : Nat) (i j : Int),j - i ≤ d → 0 ≤ i → i ≤ j → j ≤ L → ∃ ys : List S56,ys.length = L ∧ Ev (fun k => impl_Label_122.l0 k xs a i j) ys:=by
 intro d
 induction d with
 | zero =>
  intro i j h1 h2 h3 h4
  obtain ⟨ys,y1,y2⟩:=sl1 L hL i (by omega) h2 L a xs (by omega) ha0 hx
  exact ⟨ys,y1,ev_step (fun _ => impl_Label_122.l0.eq_2 ..) (ev_neg (by omega) y2)⟩
 | succ d ih =>
  intro i j h1 h2 h3 h4
  by_cases c1 : i < j
  ·have e1:=mid_ (x:=i) (y:=j) (by omega) (by omega)
   have e2 : wrap64 ((i + j) / 2 + 1) = (i + j) / 2 + 1:=w64 (by omega) (by omega)
   by_cases c2 : Lib.compareBytes (rd_T56 xs ((i + j) / 2)).f0.data.toList (rd_T56 xs a).f0.data.toList < 0
   ·obtain ⟨ys,y1,y2⟩:=ih ((i + j) / 2 + 1) j (by omega) (by omega) (by omega) h4
    refine ⟨ys,y1,ev_step (fun _ => impl_Label_122.l0.eq_2 ..) (ev_pos c1 ?_)⟩
    rw [e1,e2]
    exact ev_pos (by omega) (ev_pos (by omega) (ev_pos (by omega) (ev_pos (by omega) (ev_bind (ev_eq rfl) (ev_pos c2 y2)))))
   ·obtain ⟨ys,y1,y2⟩:=ih i ((i + j) / 2) (by omega) (by omega) (by omega) (by omega)
    refine ⟨ys,y1,ev_step (fun _ => impl_Label_122.l0.eq_2 ..) (ev_pos c1 ?_)⟩
    rw [e1]
    exact ev_pos (by omega) (ev_pos (by omega) (ev_pos (by omega) (ev_pos (by omega) (ev_bind (ev_eq rfl) (ev_neg c2 y2)))))
  ·obtain ⟨ys,y1,y2⟩:=sl1 L hL i (by omega) h2 L a xs (by omega) ha0 hx
   exact ⟨ys,y1,ev_step (fun _ => impl_Label_122.l0.eq_2 ..) (ev_neg c1 y2)⟩
theorem sl2 (L : Nat) (hL : L ≤ 1048576) (m : Int) (hm0 : 0 ≤ m) (hm : m < L) (xs : List S56) (hx : xs.length = L) : ∀ (d : Nat) (i j : Int),j - i ≤ d → 0 ≤ i → i ≤ j → j ≤ L → ∃ ys : List S56,ys.length = L ∧ Ev (fun k => impl_Label_122.l2 k xs m i j) ys:=by
 intro d
 induction d with
 | zero =>
  intro i j h1 h2 h3 h4
  obtain ⟨ys,y1,y2⟩:=sl3 L hL i h2 L m xs (by omega) hm hx
  exact ⟨ys,y1,ev_step (fun _ => impl_Label_122.l2.eq_2 ..) (ev_neg (by omega) y2)⟩
 | succ d ih =>
  intro i j h1 h2 h3 h4
  by_cases c1 : i < j
  ·have e1:=mid_ (x:=i) (y:=j) (by omega) (by omega)
   have e2 : wrap64 ((i + j) / 2 + 1) = (i + j) / 2 + 1:=w64 (by omega) (by omega)
   by_cases c2 : Lib.compareBytes (rd_T56 xs m).f0.data.toList (rd_T56 xs ((i + j) / 2)).f0.data.toList < 0
   ·obtain ⟨ys,y1,y2⟩:=ih i ((i + j) / 2) (by omega) (by omega) (by omega) (by omega)
    refine ⟨ys,y1,ev_step (fun _ => impl_Label_122.l2.eq_2 ..) (ev_pos c1 ?_)⟩
    rw [e1]
    exact ev_pos (by omega) (ev_pos (by omega) (ev_pos (by omega) (ev_pos (by omega) (ev_bind (ev_eq rfl) (ev_pos c2 y2)))))
   ·obtain ⟨ys,y1,y2⟩:=ih ((i + j) / 2 + 1) j (by omega) (by omega) (by omega) h4
    refine ⟨ys,y1,ev_step (fun _ => impl_Label_122.l2.eq_2 ..) (ev_pos c1 ?_)⟩
    rw [e1,e2]
    exact ev_pos (by omega) (ev_pos (by omega) (ev_pos (by omega) (ev_pos (by omega) (ev_bind (ev_eq rfl) (ev_neg c2 y2)))))
  ·obtain ⟨ys,y1,y2⟩:=sl3 L hL i h2 L m xs (by omega) hm hx
   exact ⟨ys,y1,ev_step (fun _ => impl_Label_122.l2.eq_2 ..) (ev_neg c1 y2)⟩
theorem sl4 (L : Nat) (hL : L ≤ 1048576) (xs : List S56) (hx : xs.length = L) (a m b c mid n p s0 r0 : Int) (hs : 0 ≤ s0) (hr : r0 ≤ L) (hp : ∀ h,s0 ≤ h → h < r0 → 0 ≤ p - h ∧ p - h < L)
  (hend : ∀ s,s0 ≤ s → s ≤ r0 → ∃ ys : List S56,ys.length = L ∧ Ev (fun k => if s < m then impl_Label_122.j6 k xs a m b c mid s (wrap64 (n - s)) (decide (m < wrap64 (n - s))) else impl_Label_122.j6 k xs a m b c mid s (wrap64 (n - s)) false) ys) :
  ∀ (d : Nat) (s r : Int),r - s ≤ d → s0 ≤ s → s ≤ r → r ≤ r0 → ∃ ys : List S56,ys.length = L ∧ Ev (fun k => impl_Label_122.l4 k xs a m b c mid n s r p) ys:=by
 intro d
 induction d with
 | zero =>
  intro s r h1 h2 h3 h4
  obtain ⟨ys,y1,y2⟩:=hend s h2 (by omega)
  exact ⟨ys,y1,ev_step (fun _ => impl_Label_122.l4.eq_2 ..) (ev_neg (by omega) y2)⟩
 | succ d ih =>
  intro s r h1 h2 h3 h4
  by_cases c1 : s < r
  ·have e1:=mid_ (x:=s) (y:=r) (by omega) (by omega)
   have e2 : wrap64 ((s + r) / 2 + 1) = (s + r) / 2 + 1:=w64 (by omega) (by omega)
   obtain ⟨p1,p2⟩:=hp ((s + r) / 2) (by omega) (by omega)
   have e3 : wrap64 (p - (s + r) / 2) = p - (s + r) / 2:=w64 (by omega) (by omega)
   by_cases c2 : Lib.compareBytes (rd_T56 xs (p - (s + r) / 2)).f0.data.toList (rd_T56 xs ((s + r) / 2)).f0.data.toList < 0
   ·obtain ⟨ys,y1,y2⟩:=ih s ((s + r) / 2) (by omega) h2 (by omega) (by omega)
    refine ⟨ys,y1,ev_step (fun _ => impl_Label_122.l4.eq_2 ..) (ev_pos c1 ?_)⟩
    rw [e1,e3]
    exact ev_pos p1 (ev_pos (by omega) (ev_pos (by omega) (ev_pos (by omega) (ev_bind (ev_eq rfl) (ev_pos c2 y2)))))
   ·obtain ⟨ys,y1,y2⟩:=ih ((s + r) / 2 + 1) r (by omega) (by omega) (by omega) h4
    refine ⟨ys,y1,ev_step (fun _ => impl_Label_122.l4.eq_2 ..) (ev_pos c1 ?_)⟩
    rw [e1,e2,e3]
    exact ev_pos p1 (ev_pos (by omega) (ev_pos (by omega) (ev_pos (by omega) (ev_bind (ev_eq rfl) (ev_neg c2 y2)))))
  ·obtain ⟨ys,y1,y2⟩:=hend s h2 (by omega)
   exact ⟨ys,y1,ev_step (fun _ => impl_Label_122.l4.eq_2 ..) (ev_neg c1 y2)⟩
theorem sym_ev (L : Nat) (hL : L ≤ 1048576) (c : Int) : ∀ (d : Nat) (a m b : Int) (xs : List S56),b - a ≤ d → 0 ≤ a → a < m → m < b → b ≤ L → xs.length = L → ∃ ys : List S56,ys.length = L ∧ Ev (fun k => impl_Label_122.f k xs a m b c) ys:=by
 intro d
 induction d with
 | zero => intro a m b xs h1 h2 h3 h4;omega
 | succ d ih =>
  intro a m b xs h1 h2 h3 h4 h5 hx
  have e1 : wrap64 (m - a) = m - a:=w64 (by omega) (by omega)
  have e2 : wrap64 (b - m) = b - m:=w64 (by omega) (by omega)
  have e3:=mid_ (x:=a) (y:=b) (by omega) (by omega)
  by_cases c1 : m - a = 1
  ·obtain ⟨ys,y1,y2⟩:=sl0 L hL a h2 (by omega) xs hx L m b (by omega) (by omega) (by omega) h5
   refine ⟨ys,y1,ev_step (fun _ => impl_Label_122.f.eq_2 ..) ?_⟩
   rw [e1]
   exact ev_pos c1 y2
  by_cases c2 : b - m = 1
  ·obtain ⟨ys,y1,y2⟩:=sl2 L hL m (by omega) (by omega) xs hx L a m (by omega) h2 (by omega) (by omega)
   refine ⟨ys,y1,ev_step (fun _ => impl_Label_122.f.eq_2 ..) ?_⟩
   rw [e1,e2]
   exact ev_neg c1 (ev_pos c2 y2)
  obtain ⟨mid,hmid⟩ : ∃ mid,mid = (a + b) / 2:=⟨_,rfl⟩
  rw [← hmid] at e3
  have e4 : wrap64 (mid + m) = mid + m:=w64 (by omega) (by omega)
  have e5 : wrap64 (mid + m - 1) = mid + m - 1:=w64 (by omega) (by omega)
  have e6 : wrap64 (mid + m - b) = mid + m - b:=w64 (by omega) (by omega)
  have two : ∀ (s e : Int) (ys : List S56),a ≤ s → s ≤ mid → e ≤ b → ys.length = L → ∃ zs : List S56,zs.length = L ∧ Ev (fun k => impl_Label_122.j7 k ys a b c mid s e) zs:=by
   intro s e ys g1 g2 g3 hy
   have last : ∀ ws : List S56,ws.length = L → ∃ zs : List S56,zs.length = L ∧ Ev (fun k => if mid < e then (if e < b then ((impl_Label_122.f k ws mid e b c).bind fun t => some t) else (some ws)) else (some ws)) zs:=by
    intro ws hw
    by_cases q1 : mid < e
    ·by_cases q2 : e < b
     ·obtain ⟨zs,z1,z2⟩:=ih mid e b ws (by omega) (by omega) q1 q2 h5 hw
      exact ⟨zs,z1,ev_pos q1 (ev_pos q2 (ev_bind z2 (ev_now _)))⟩
     ·exact ⟨ws,hw,ev_pos q1 (ev_neg q2 (ev_now _))⟩
    ·exact ⟨ws,hw,ev_neg q1 (ev_now _)⟩
   by_cases q : a < s
   ·by_cases q2 : s < mid
    ·obtain ⟨ws,w1,w2⟩:=ih a s mid ys (by omega) h2 q q2 (by omega) hy
     obtain ⟨zs,z1,z2⟩:=last ws w1
     exact ⟨zs,z1,ev_step (fun _ => impl_Label_122.j7.eq_2 ..) (ev_pos q (ev_step (fun _ => impl_Label_122.j8.eq_2 ..) (ev_pos (decide_eq_true q2) (ev_bind w2 z2))))⟩
    ·obtain ⟨zs,z1,z2⟩:=last ys hy
     exact ⟨zs,z1,ev_step (fun _ => impl_Label_122.j7.eq_2 ..) (ev_pos q (ev_step (fun _ => impl_Label_122.j8.eq_2 ..) (ev_neg (by rw [decide_eq_false q2];decide) z2)))⟩
   ·obtain ⟨zs,z1,z2⟩:=last ys hy
    exact ⟨zs,z1,ev_step (fun _ => impl_Label_122.j7.eq_2 ..) (ev_neg q (ev_step (fun _ => impl_Label_122.j8.eq_2 ..) (ev_neg (by decide) z2)))⟩
  have fin : ∀ s : Int,a ≤ s → s ≤ mid → mid + m - s ≤ b → ∃ ys : List S56,ys.length = L ∧ Ev (fun k => if s < m then impl_Label_122.j6 k xs a m b c mid s (wrap64 (mid + m - s)) (decide (m < wrap64 (mid + m - s))) else impl_Label_122.j6 k xs a m b c mid s (wrap64 (mid + m - s)) false) ys:=by
   intro s g1 g2 g3
   have e7 : wrap64 (mid + m - s) = mid + m - s:=w64 (by omega) (by omega)
   rw [e7]
   by_cases q1 : s < m
   ·by_cases q2 : m < mid + m - s
    ·obtain ⟨ys,y1,y2⟩:=rot_ev L hL m c L (m - s) (mid + m - s - m) xs (by omega) (by omega) (by omega) (by omega) (by omega) hx
     obtain ⟨zs,z1,z2⟩:=two s (mid + m - s) ys g1 g2 g3 y1
     refine ⟨zs,z1,ev_pos q1 (ev_step (fun _ => impl_Label_122.j6.eq_2 ..) (ev_pos (decide_eq_true q2) (ev_bind (a:=ys) ?_ z2)))⟩
     unfold impl_Label_131.f
     rw [w64 (x:=m - s) (by omega) (by omega),w64 (x:=mid + m - s - m) (by omega) (by omega)]
     exact y2
    ·obtain ⟨zs,z1,z2⟩:=two s (mid + m - s) xs g1 g2 g3 hx
     exact ⟨zs,z1,ev_pos q1 (ev_step (fun _ => impl_Label_122.j6.eq_2 ..) (ev_neg (by rw [decide_eq_false q2];decide) z2))⟩
   ·obtain ⟨zs,z1,z2⟩:=two s (mid + m - s) xs g1 g2 g3 hx
    exact ⟨zs,z1,ev_neg q1 (ev_step (fun _ => impl_Label_122.j6.eq_2 ..) (ev_neg (by decide) z2))⟩
  by_cases c3 : m > mid
  ·obtain ⟨ys,y1,y2⟩:=sl4 L hL xs hx a m b c mid (mid + m) (mid + m - 1) (mid + m - b) mid (by omega) (by omega) (fun h g1 g2 => ⟨by omega,by omega⟩) (fun s g1 g2 => fin s (by omega) g2 (by omega)) L (mid + m - b) mid (by omega) (by omega) (by omega) (by omega)
   refine ⟨ys,y1,ev_step (fun _ => impl_Label_122.f.eq_2 ..) ?_⟩
   rw [e1,e2,e3,e4,e6]
   refine ev_neg c1 (ev_neg c2 (ev_pos c3 (ev_step (fun _ => impl_Label_122.j4.eq_2 ..) ?_)))
   rw [e5]
   exact y2
  ·obtain ⟨ys,y1,y2⟩:=sl4 L hL xs hx a m b c mid (mid + m) (mid + m - 1) a m (by omega) (by omega) (fun h g1 g2 => ⟨by omega,by omega⟩) (fun s g1 g2 => fin s g1 (by omega) (by omega)) L a m (by omega) (by omega) (by omega) (by omega)
   refine ⟨ys,y1,ev_step (fun _ => impl_Label_122.f.eq_2 ..) ?_⟩
   rw [e1,e2,e3,e4]
   refine ev_neg c1 (ev_neg c2 (ev_neg c3 (ev_step (fun _ => impl_Label_122.j4.eq_2 ..) ?_)))
   rw [e5]
   exact y2
end Go.Proofs.Ytfdbbpnmnogddaa.U
namespace Go.Proofs.Ytfdbbpnmnogddaa.U
open Go.RowKit Go.Proofs.Ytfdbbpnmnogddaa.Pr Go.Proofs.YtfdbbpnmnogddaaW.PrintWords Go.Proofs.YtfdbbpnmnogddaaW.PrintLast Go.Proofs.YtfdbbpnmnogddaaW.PrintMore
set_option linter.unusedVariables false
set_option linter.unusedSimpArgs false
theorem cb_cmp : ∀ a b : List UInt8,Lib.compareBytes a b = cmpL a b
 | [],[] => rfl
 | [],_ :: _ => rfl
 | _ :: _,[] => rfl
 | a :: l,b :: m => by
  unfold Lib.compareBytes cmpL
  rw [cb_cmp l m]
  by_cases h : a < b
  ·have:=UInt8.lt_iff_toNat_lt.1 h
   rw [if_pos h,if_neg (by omega),if_pos (by omega)]
  ·rw [if_neg h]
   have h1 : ¬ a.toNat < b.toNat:=fun q => h (UInt8.lt_iff_toNat_lt.2 q)
   by_cases h2 : b < a
   ·have:=UInt8.lt_iff_toNat_lt.1 h2
    rw [if_pos h2,if_neg (by omega),if_neg (by omega)]
   ·have h3 : ¬ b.toNat < a.toNat:=fun q => h2 (UInt8.lt_iff_toNat_lt.2 q)
    rw [if_neg h2,if_pos (by omega)]
def insr (x : S56) : List S56 → List S56
 | [] => [x]
 | y :: t => if cmpL (Y x.f0) (Y y.f0) < 0 then y :: insr x t else x :: y :: t
def srtr : List S56 → List S56 → List S56
 | p,[] => p
 | p,x :: r => srtr (insr x p) r
theorem insr_perm (x : S56) : ∀ p,(insr x p).Perm (x :: p)
 | [] => List.Perm.refl _
 | y :: t => by
  unfold insr
  split
  ·exact ((insr_perm x t).cons y).trans (List.Perm.swap x y t)
  ·exact List.Perm.refl _
theorem srtr_perm : ∀ r p,(srtr p r).Perm (r ++ p)
 | [],p => List.Perm.refl _
 | x :: r,p => by
  unfold srtr
  exact (srtr_perm r _).trans (((insr_perm x p).append_left r).trans List.perm_middle)
theorem set_two : ∀ (A : List S56) (y x : S56) (R : List S56),((A ++ y :: x :: R).set (A.length + 1) y).set A.length x = A ++ x :: y :: R
 | [],_,_,_ => rfl
 | a :: A,y,x,R => congrArg (List.cons a) (set_two A y x R)
theorem rd_mid (A : List S56) (z : S56) (R : List S56) (i : Int) (hi : i = (A.length : Int)) : rd_T56 (A ++ z :: R) i = z:=by
 subst hi
 have h : A.length < (A ++ z :: R).length:=by rw [List.length_append,List.length_cons];omega
 have e : rd_T56 (A ++ z :: R) (A.length : Int) = (A ++ z :: R)[A.length]:=getD_lt h
 rw [e,List.getElem_append_right (Nat.le_refl _)]
 simp
theorem ins_in (n c : Int) (x : S56) (i : Int) (R : List S56) : ∀ (p rest : List S56),p.length + rest.length ≤ 1048576 → Ev (fun k => impl_Label_121.l0 k ((insr x p).reverse ++ rest) 0 n (wrap64 (i + 1))) R → Ev (fun k => impl_Label_121.l1 k (p.reverse ++ x :: rest) 0 n i (p.length : Int)) R:=by
 intro p
 induction p with
 | nil =>
  intro rest hl h
  exact ev_step (fun _ => impl_Label_121.l1.eq_2 ..) (ev_neg (by decide) h)
 | cons y t ih =>
  intro rest hl h
  rw [List.length_cons] at hl
  have el : (y :: t).reverse ++ x :: rest = t.reverse ++ y :: x :: rest:=by simp
  have el2 : (y :: t).reverse ++ x :: rest = (t.reverse ++ [y]) ++ x :: rest:=by simp
  have ex : rd_T56 ((y :: t).reverse ++ x :: rest) ((y :: t).length : Int) = x:=by rw [el2];exact rd_mid _ _ _ _ (by simp)
  have ey : rd_T56 ((y :: t).reverse ++ x :: rest) (t.length : Int) = y:=by rw [el];exact rd_mid _ _ _ _ (by simp)
  have e1 : wrap64 (((y :: t).length : Int) - 1) = (t.length : Int):=by rw [List.length_cons,w64 (by omega) (by omega)];omega
  have hz : ((y :: t).reverse ++ x :: rest).length = t.length + 2 + rest.length:=by simp;omega
  refine ev_step (fun _ => impl_Label_121.l1.eq_2 ..) (ev_pos (by rw [List.length_cons];omega) (ev_pos (by omega) (ev_pos (by rw [hz,List.length_cons];omega) ?_)))
  rw [e1]
  refine ev_pos (by omega) (ev_pos (by rw [hz];omega) ?_)
  rw [ex,ey]
  refine ev_bind (ev_eq rfl) ?_
  by_cases q : cmpL (Y x.f0) (Y y.f0) < 0
  ·refine ev_pos (by rw [cb_cmp];exact q) ?_
   have es : (((y :: t).reverse ++ x :: rest).set (((y :: t).length : Int)).toNat ⟨y.f0,y.f1⟩).set ((t.length : Int)).toNat ⟨x.f0,x.f1⟩ = t.reverse ++ x :: y :: rest:=by
    rw [el,Int.toNat_natCast,Int.toNat_natCast,List.length_cons]
    have:=set_two t.reverse y x rest
    rw [List.length_reverse] at this
    exact this
   rw [es]
   refine ih (y :: rest) (by rw [List.length_cons];omega) ?_
   rw [show insr x (y :: t) = y :: insr x t from if_pos q] at h
   rw [show (insr x t).reverse ++ y :: rest = (y :: insr x t).reverse ++ rest by simp]
   exact h
  ·refine ev_neg (by rw [cb_cmp];exact q) ?_
   rw [show insr x (y :: t) = x :: y :: t from if_neg q] at h
   rw [show (y :: t).reverse ++ x :: rest = (x :: y :: t).reverse ++ rest by simp]
   exact h
theorem ins_out (c : Int) : ∀ (rest p : List S56),p.length + rest.length ≤ 1048576 → Ev (fun k => impl_Label_121.l0 k (p.reverse ++ rest) 0 ((p.length + rest.length : Nat) : Int) (p.length : Int)) (srtr p rest).reverse:=by
 intro rest
 induction rest with
 | nil =>
  intro p hl
  rw [List.append_nil]
  exact ev_step (fun _ => impl_Label_121.l0.eq_2 ..) (ev_neg (by rw [List.length_nil];omega) (ev_now _))
 | cons x r ih =>
  intro p hl
  rw [List.length_cons] at hl
  have hk : (insr x p).length = p.length + 1:=(insr_perm x p).length_eq
  have h2:=ih (insr x p) (by omega)
  refine ev_step (fun _ => impl_Label_121.l0.eq_2 ..) (ev_pos (by rw [List.length_cons];omega) (ins_in _ c x _ _ p r (by omega) ?_))
  rw [w64n (show p.length < 1048577 by omega) (by omega)]
  rw [hk,show p.length + 1 + r.length = p.length + (x :: r).length by rw [List.length_cons];omega] at h2
  exact h2
theorem ins_all (c : Int) (xs : List S56) (hl : xs.length ≤ 1048576) : Ev (fun k => impl_Label_121.f k xs 0 (xs.length : Int) c) (srtr [] xs).reverse:=by
 unfold impl_Label_121.f
 cases xs with
 | nil => exact ev_step (fun _ => impl_Label_121.l0.eq_2 ..) (ev_neg (by rw [w64 (x:=0 + 1) (by omega) (by omega),List.length_nil];omega) (ev_now _))
 | cons x r =>
  have:=ins_out c r [x] (by rw [List.length_cons] at hl;simpa [Nat.add_comm] using hl)
  rw [show ([x] : List S56).length + r.length = (x :: r).length by simp [Nat.add_comm]] at this
  have e1 : wrap64 (0 + 1) = (([x] : List S56).length : Int):=by rw [w64 (by omega) (by omega)];rfl
  rw [e1]
  exact this
theorem srt_few (c : Int) (xs : List S56) (hl : xs.length ≤ 20) : Ev (fun k => impl_Label_61.f k xs c) (srtr [] xs).reverse:=by
 unfold impl_Label_61.f impl_Label_101.f
 have hz : ((srtr [] xs).reverse).length = xs.length:=by rw [List.length_reverse,(srtr_perm xs []).length_eq,List.append_nil]
 refine ev_bind (a:=(srtr [] xs).reverse) ?_ (ev_now _)
 by_cases h : xs.length = 20
 ·refine ev_step (fun _ => impl_Label_101.l0.eq_2 ..) (ev_pos (by omega) ?_)
  have e:=ins_all c xs (by omega)
  rw [h] at e
  refine ev_bind e (ev_step (fun _ => impl_Label_101.l0.eq_2 ..) (ev_neg (by rw [w64 (by omega) (by omega)];omega) ?_))
  refine ev_bind (a:=(srtr [] xs).reverse) ?_ (ev_step (fun _ => impl_Label_101.l1.eq_2 ..) (ev_neg (by omega) (ev_now _)))
  unfold impl_Label_121.f
  exact ev_step (fun _ => impl_Label_121.l0.eq_2 ..) (ev_neg (by rw [w64 (by omega) (by omega)];omega) (ev_now _))
 ·exact ev_step (fun _ => impl_Label_101.l0.eq_2 ..) (ev_neg (by omega) (ev_bind (ins_all c xs (by omega)) (ev_step (fun _ => impl_Label_101.l1.eq_2 ..) (ev_neg (by omega) (ev_now _)))))
theorem ins_ev (L : Nat) (hL : L ≤ 1048576) (a b c : Int) (ha : 0 ≤ a) (hb : b ≤ L) : ∀ (d : Nat) (i : Int) (xs : List S56),b - i ≤ d → a ≤ i → xs.length = L → ∃ ys : List S56,ys.length = L ∧ Ev (fun k => impl_Label_121.l0 k xs a b i) ys:=by
 intro d
 induction d with
 | zero =>
  intro i xs h1 h2 hx
  exact ⟨xs,hx,ev_step (fun _ => impl_Label_121.l0.eq_2 ..) (ev_neg (by omega) (ev_now _))⟩
 | succ d ih =>
  intro i xs h1 h2 hx
  by_cases c1 : i < b
  ·have e1 : wrap64 (i + 1) = i + 1:=w64 (by omega) (by omega)
   have inner : ∀ (e : Nat) (j : Int) (xs : List S56),j - a ≤ e → j < L → xs.length = L → ∃ ys : List S56,ys.length = L ∧ Ev (fun k => impl_Label_121.l1 k xs a b i j) ys:=by
    intro e
    induction e with
    | zero =>
     intro j xs g1 g2 hx
     obtain ⟨ys,y1,y2⟩:=ih (i + 1) xs (by omega) (by omega) hx
     exact ⟨ys,y1,ev_step (fun _ => impl_Label_121.l1.eq_2 ..) (ev_neg (by omega) (by rw [e1];exact y2))⟩
    | succ e ihe =>
     intro j xs g1 g2 hx
     by_cases q : j > a
     ·have e2 : wrap64 (j - 1) = j - 1:=w64 (by omega) (by omega)
      by_cases q2 : Lib.compareBytes (rd_T56 xs j).f0.data.toList (rd_T56 xs (j - 1)).f0.data.toList < 0
      ·obtain ⟨ys,y1,y2⟩:=ihe (j - 1) ((xs.set j.toNat ⟨(rd_T56 xs (j - 1)).f0,(rd_T56 xs (j - 1)).f1⟩).set (j - 1).toNat ⟨(rd_T56 xs j).f0,(rd_T56 xs j).f1⟩) (by omega) (by omega) (by rw [List.length_set,List.length_set];exact hx)
       refine ⟨ys,y1,ev_step (fun _ => impl_Label_121.l1.eq_2 ..) (ev_pos q ?_)⟩
       rw [e2]
       exact ev_pos (by omega) (ev_pos (by omega) (ev_pos (by omega) (ev_pos (by omega) (ev_bind (ev_eq rfl) (ev_pos q2 y2)))))
      ·obtain ⟨ys,y1,y2⟩:=ih (i + 1) xs (by omega) (by omega) hx
       refine ⟨ys,y1,ev_step (fun _ => impl_Label_121.l1.eq_2 ..) (ev_pos q ?_)⟩
       rw [e1,e2]
       exact ev_pos (by omega) (ev_pos (by omega) (ev_pos (by omega) (ev_pos (by omega) (ev_bind (ev_eq rfl) (ev_neg q2 y2)))))
     ·obtain ⟨ys,y1,y2⟩:=ih (i + 1) xs (by omega) (by omega) hx
      exact ⟨ys,y1,ev_step (fun _ => impl_Label_121.l1.eq_2 ..) (ev_neg q (by rw [e1];exact y2))⟩
   obtain ⟨ys,y1,y2⟩:=inner L i xs (by omega) (by omega) hx
   exact ⟨ys,y1,ev_step (fun _ => impl_Label_121.l0.eq_2 ..) (ev_pos c1 y2)⟩
  ·exact ⟨xs,hx,ev_step (fun _ => impl_Label_121.l0.eq_2 ..) (ev_neg c1 (ev_now _))⟩
theorem insf_ev (L : Nat) (hL : L ≤ 1048576) (a b c : Int) (ha : 0 ≤ a) (ha2 : a ≤ L) (hb : b ≤ L) (xs : List S56) (hx : xs.length = L) : ∃ ys : List S56,ys.length = L ∧ Ev (fun k => impl_Label_121.f k xs a b c) ys:=by
 obtain ⟨ys,y1,y2⟩:=ins_ev L hL a b c ha hb L (a + 1) xs (by omega) (by omega) hx
 refine ⟨ys,y1,?_⟩
 unfold impl_Label_121.f
 rw [w64 (by omega) (by omega)]
 exact y2
theorem stb_2 (L : Nat) (hL : L ≤ 1048576) (c bs : Int) (h0 : 0 < bs) (h3 : bs < L) (hl1 : ∀ xs : List S56,xs.length = L → ∃ ys : List S56,ys.length = L ∧ Ev (fun k => impl_Label_101.l1 k xs (L : Int) c (bs * 2)) ys) : ∀ (d : Nat) (a : Int) (xs : List S56),L - a ≤ d → 0 ≤ a → a ≤ L → xs.length = L → ∃ ys : List S56,ys.length = L ∧ Ev (fun k => impl_Label_101.l2 k xs (L : Int) c bs a (a + 2 * bs)) ys:=by
 intro d
 induction d with
 | zero =>
  intro a xs h1 h2 h4 hx
  obtain ⟨ys,y1,y2⟩:=hl1 xs hx
  refine ⟨ys,y1,ev_step (fun _ => impl_Label_101.l2.eq_2 ..) (ev_neg (by omega) ?_)⟩
  rw [w64 (x:=a + bs) (by omega) (by omega),w64 (x:=bs * 2) (by omega) (by omega)]
  exact ev_neg (by omega) y2
 | succ d ih =>
  intro a xs h1 h2 h4 hx
  have e1 : wrap64 (a + bs) = a + bs:=w64 (by omega) (by omega)
  have e2 : wrap64 (2 * bs) = 2 * bs:=w64 (by omega) (by omega)
  have e3 : wrap64 (a + 2 * bs + 2 * bs) = a + 2 * bs + 2 * bs:=w64 (by omega) (by omega)
  have e4 : wrap64 (bs * 2) = bs * 2:=w64 (by omega) (by omega)
  by_cases c1 : a + 2 * bs ≤ L
  ·obtain ⟨ys,y1,y2⟩:=sym_ev L hL c L a (a + bs) (a + 2 * bs) xs (by omega) h2 (by omega) (by omega) c1 hx
   obtain ⟨zs,z1,z2⟩:=ih (a + 2 * bs) ys (by omega) (by omega) c1 y1
   refine ⟨zs,z1,ev_step (fun _ => impl_Label_101.l2.eq_2 ..) (ev_pos c1 ?_)⟩
   rw [e1,e2,e3]
   exact ev_bind y2 z2
  ·by_cases c2 : a + bs < L
   ·obtain ⟨ys,y1,y2⟩:=sym_ev L hL c L a (a + bs) L xs (by omega) h2 (by omega) c2 (by omega) hx
    obtain ⟨zs,z1,z2⟩:=hl1 ys y1
    refine ⟨zs,z1,ev_step (fun _ => impl_Label_101.l2.eq_2 ..) (ev_neg c1 ?_)⟩
    rw [e1,e4]
    exact ev_pos c2 (ev_bind y2 z2)
   ·obtain ⟨zs,z1,z2⟩:=hl1 xs hx
    refine ⟨zs,z1,ev_step (fun _ => impl_Label_101.l2.eq_2 ..) (ev_neg c1 ?_)⟩
    rw [e1,e4]
    exact ev_neg c2 z2
theorem stb_1 (L : Nat) (hL : L ≤ 1048576) (c : Int) : ∀ (d : Nat) (bs : Int) (xs : List S56),L - bs ≤ d → 0 < bs → xs.length = L → ∃ ys : List S56,ys.length = L ∧ Ev (fun k => impl_Label_101.l1 k xs (L : Int) c bs) ys:=by
 intro d
 induction d with
 | zero =>
  intro bs xs h1 h2 hx
  exact ⟨xs,hx,ev_step (fun _ => impl_Label_101.l1.eq_2 ..) (ev_neg (by omega) (ev_now _))⟩
 | succ d ih =>
  intro bs xs h1 h2 hx
  by_cases c1 : bs < L
  ·obtain ⟨ys,y1,y2⟩:=stb_2 L hL c bs h2 c1 (fun xs hx => ih (bs * 2) xs (by omega) (by omega) hx) L 0 xs (by omega) (by omega) (by omega) hx
   refine ⟨ys,y1,ev_step (fun _ => impl_Label_101.l1.eq_2 ..) (ev_pos c1 ?_)⟩
   rw [w64 (x:=2 * bs) (by omega) (by omega)]
   rw [Int.zero_add] at y2
   exact y2
  ·exact ⟨xs,hx,ev_step (fun _ => impl_Label_101.l1.eq_2 ..) (ev_neg c1 (ev_now _))⟩
theorem stb_0 (L : Nat) (hL : L ≤ 1048576) (c : Int) : ∀ (d : Nat) (a : Int) (xs : List S56),L - a ≤ d → 0 ≤ a → a ≤ L → xs.length = L → ∃ ys : List S56,ys.length = L ∧ Ev (fun k => impl_Label_101.l0 k xs (L : Int) c 20 a (a + 20)) ys:=by
 intro d
 induction d with
 | zero =>
  intro a xs h1 h2 h4 hx
  obtain ⟨ys,y1,y2⟩:=insf_ev L hL a L c h2 h4 (by omega) xs hx
  obtain ⟨zs,z1,z2⟩:=stb_1 L hL c L 20 ys (by omega) (by omega) y1
  exact ⟨zs,z1,ev_step (fun _ => impl_Label_101.l0.eq_2 ..) (ev_neg (by omega) (ev_bind y2 z2))⟩
 | succ d ih =>
  intro a xs h1 h2 h4 hx
  by_cases c1 : a + 20 ≤ L
  ·obtain ⟨ys,y1,y2⟩:=insf_ev L hL a (a + 20) c h2 h4 c1 xs hx
   obtain ⟨zs,z1,z2⟩:=ih (a + 20) ys (by omega) (by omega) c1 y1
   refine ⟨zs,z1,ev_step (fun _ => impl_Label_101.l0.eq_2 ..) (ev_pos c1 ?_)⟩
   rw [w64 (x:=a + 20 + 20) (by omega) (by omega)]
   exact ev_bind y2 z2
  ·obtain ⟨ys,y1,y2⟩:=insf_ev L hL a L c h2 h4 (by omega) xs hx
   obtain ⟨zs,z1,z2⟩:=stb_1 L hL c L 20 ys (by omega) (by omega) y1
   exact ⟨zs,z1,ev_step (fun _ => impl_Label_101.l0.eq_2 ..) (ev_neg c1 (ev_bind y2 z2))⟩
theorem srt_any (c : Int) (xs : List S56) (hl : xs.length ≤ 1048576) : ∃ ys : List S56,ys.length = xs.length ∧ Ev (fun k => impl_Label_61.f k xs c) ys:=by
 obtain ⟨ys,y1,y2⟩:=stb_0 xs.length hl c xs.length 0 xs (by omega) (by omega) (by omega) rfl
 refine ⟨ys,y1,?_⟩
 unfold impl_Label_61.f impl_Label_101.f
 rw [Int.zero_add] at y2
 exact ev_bind y2 (ev_now _)
end Go.Proofs.Ytfdbbpnmnogddaa.U
namespace Go.Proofs.Ytfdbbpnmnogddaa.U
open Go.RowKit Go.Proofs.Ytfdbbpnmnogddaa.Pr Go.Proofs.YtfdbbpnmnogddaaW.PrintWords Go.Proofs.YtfdbbpnmnogddaaW.PrintLast Go.Proofs.YtfdbbpnmnogddaaW.PrintMore
set_option linter.unusedVariables false
set_option linter.unusedSimpArgs false
theorem ev_if {α : Type} {c : Prop} [Decidable c] {a b : Nat → Option α} {x y : α} (h : Ev a x) (h' : Ev b y) : Ev (fun k => if c then a k else b k) (if c then x else y):=by
 by_cases hc : c
 ·rw [if_pos hc];exact ev_pos hc h
 ·rw [if_neg hc];exact ev_neg hc h'
theorem fill_l (s : ByteArray) (hs : s.size ≤ 4611686018427387904) : ∀ d i : Nat,i + d = s.size ∨ (d = 0 ∧ s.size ≤ i ∧ i ≤ s.size + 1) → ∃ v,Ev (fun k => impl_isFilling.l0 k s (i : Int)) v ∧ Ev (fun k => spec_l4Filling.l0 k s (i : Int)) v ∧ (s.size ≤ i → v = true):=by
 intro d
 induction d using Nat.strongRecOn with
 | ind d ih =>
  intro i h
  by_cases hi : i < s.size
  ·have e1 : wrap64 ((i : Int) + 1) = ((i + 1 : Nat) : Int):=w64n hi (by omega)
   have e2 : wrap64 ((((i + 1 : Nat)) : Int) + 1) = ((i + 2 : Nat) : Int):=by unfold wrap64;omega
   by_cases c : bt s (i : Int) = 36
   ·by_cases c1 : i + 1 = s.size
    ·refine ⟨false,?_,?_,fun hx => by omega⟩
     ·refine ev_step (fun _ => impl_isFilling.l0.eq_2 ..) (ev_pos (by omega) (ev_pos (by omega) (ev_pos c (ev_pos ?_ (ev_now _)))))
      rw [e1];omega
     ·refine ev_step (fun _ => spec_l4Filling.l0.eq_2 ..) (ev_pos (by omega) (ev_pos (by omega) (ev_pos c (ev_pos ?_ (ev_now _)))))
      rw [e1];omega
    ·have lead : ∀ v : Bool,(bt s ((i + 1 : Nat) : Int) = 36 → v = v) → True:=fun _ _ => trivial
     obtain ⟨v,h1,h2,h3⟩:=ih (d - 2) (by omega) (i + 2) (by omega)
     by_cases c2 : bt s ((i + 1 : Nat) : Int) = 36
     ·refine ⟨v,?_,?_,fun hx => by omega⟩
      ·refine ev_step (fun _ => impl_isFilling.l0.eq_2 ..) (ev_pos (by omega) (ev_pos (by omega) (ev_pos c (ev_neg ?_ ?_))))
       ·rw [e1];omega
       ·rw [e1,e2]
        exact ev_pos (by omega) (ev_pos (by omega) (ev_pos c2 h1))
      ·refine ev_step (fun _ => spec_l4Filling.l0.eq_2 ..) (ev_pos (by omega) (ev_pos (by omega) (ev_pos c (ev_neg ?_ ?_))))
       ·rw [e1];omega
       ·rw [e1,e2]
        exact ev_pos (by omega) (ev_pos (by omega) (ev_pos c2 h2))
     ·refine ⟨if bt s ((i + 1 : Nat) : Int) < 49 then false else if bt s ((i + 1 : Nat) : Int) > 57 then false else v,?_,?_,fun hx => by omega⟩
      ·refine ev_step (fun _ => impl_isFilling.l0.eq_2 ..) (ev_pos (by omega) (ev_pos (by omega) (ev_pos c (ev_neg ?_ ?_))))
       ·rw [e1];omega
       ·rw [e1,e2]
        exact ev_pos (by omega) (ev_pos (by omega) (ev_neg c2 (ev_if (ev_now _) (ev_if (ev_now _) h1))))
      ·refine ev_step (fun _ => spec_l4Filling.l0.eq_2 ..) (ev_pos (by omega) (ev_pos (by omega) (ev_pos c (ev_neg ?_ ?_))))
       ·rw [e1];omega
       ·rw [e1,e2]
        exact ev_pos (by omega) (ev_pos (by omega) (ev_neg c2 (ev_if (ev_now _) (ev_if (ev_now _) h2))))
   ·obtain ⟨v,h1,h2,h3⟩:=ih (d - 1) (by omega) (i + 1) (by omega)
    refine ⟨v,?_,?_,fun hx => by omega⟩
    ·refine ev_step (fun _ => impl_isFilling.l0.eq_2 ..) (ev_pos (by omega) (ev_pos (by omega) (ev_neg c ?_)))
     rw [e1];exact h1
    ·refine ev_step (fun _ => spec_l4Filling.l0.eq_2 ..) (ev_pos (by omega) (ev_pos (by omega) (ev_neg c ?_)))
     rw [e1];exact h2
  ·exact ⟨true,ev_step (fun _ => impl_isFilling.l0.eq_2 ..) (ev_neg (by omega) (ev_now _)),ev_step (fun _ => spec_l4Filling.l0.eq_2 ..) (ev_neg (by omega) (ev_now _)),fun _ => rfl⟩
theorem fill_two (s : ByteArray) (hs : s.size ≤ 4611686018427387904) : ∃ v,Ev (fun k => impl_isFilling.f k s) v ∧ Ev (fun k => spec_l4Filling.f k s) v ∧ (s.toList = [] → v = true):=by
 obtain ⟨v,h1,h2,h3⟩:=fill_l s hs s.size 0 (by omega)
 have hp1:=printed_impl s (by omega) 100
 have hp2:=printed_spec s (by omega)
 by_cases hz : s.size ≤ 100
 ·cases hp : (Y s).all prC with
  | true =>
   refine ⟨v,?_,?_,fun he => h3 ?_⟩
   ·unfold impl_isFilling.f
    refine ev_bind hp1 (ev_pos ?_ h1)
    unfold prL;rw [Y_len,hp,decide_eq_true hz];rfl
   ·unfold spec_l4Filling.f
    refine ev_neg (by omega) (ev_bind hp2 (ev_step (fun _ => spec_l4Filling.j0.eq_2 ..) (ev_neg (by rw [hp];decide) h2)))
   ·have:=Y_len s;rw [show Y s = [] from Y_eq.symm.trans he] at this;simp at this;omega
  | false =>
   refine ⟨false,?_,?_,fun he => ?_⟩
   ·unfold impl_isFilling.f
    refine ev_bind hp1 (ev_neg ?_ (ev_now _))
    unfold prL;rw [hp,Bool.and_false];decide
   ·unfold spec_l4Filling.f
    refine ev_neg (by omega) (ev_bind hp2 (ev_step (fun _ => spec_l4Filling.j0.eq_2 ..) (ev_pos (by rw [hp];rfl) (ev_now _))))
   ·rw [show Y s = [] from Y_eq.symm.trans he] at hp;cases hp
 ·refine ⟨false,?_,?_,fun he => ?_⟩
  ·unfold impl_isFilling.f
   refine ev_bind hp1 (ev_neg ?_ (ev_now _))
   unfold prL;rw [Y_len,decide_eq_false hz,Bool.false_and];decide
  ·unfold spec_l4Filling.f
   exact ev_pos (by omega) (ev_step (fun _ => spec_l4Filling.j0.eq_2 ..) (ev_pos rfl (ev_now _)))
  ·have:=Y_len s;rw [show Y s = [] from Y_eq.symm.trans he] at this;simp at this;omega
end Go.Proofs.Ytfdbbpnmnogddaa.U
namespace Go.Proofs.Ytfdbbpnmnogddaa.U
open Go.RowKit Go.Proofs.Ytfdbbpnmnogddaa.Pr Go.Proofs.YtfdbbpnmnogddaaW.PrintWords Go.Proofs.YtfdbbpnmnogddaaW.PrintLast Go.Proofs.YtfdbbpnmnogddaaW.PrintMore
set_option linter.unusedVariables false
set_option linter.unusedSimpArgs false
def patB (s : ByteArray) : Bool:=prL 100 (Y s) && (altA s 0 [] []).2
def patA (s : ByteArray) : List (List Int):=if prL 100 (Y s) = true then (altA s 0 [] []).1 else []
theorem prL_size {s : ByteArray} {n : Nat} (h : prL n (Y s) = true) : s.size ≤ n:=by
 unfold prL at h
 rw [Y_len,Bool.and_eq_true,decide_eq_true_eq] at h
 exact h.1
theorem alt_spec (s : ByteArray) (hs : s.size ≤ 9223372036854775807) : Ev (fun k => spec_l2Alternatives.f k s) (patA s,patB s):=by
 unfold spec_l2Alternatives.f patB patA prL
 rw [Y_len]
 refine ev_ite (fun h => ?_) (fun h => ?_)
 ·rw [decide_eq_false (by omega),Bool.false_and,Bool.false_and,if_neg (by decide)]
  exact ev_now _
 ·rw [decide_eq_true (by omega),Bool.true_and]
  refine ev_bind (printed_spec s hs) (ev_ite (fun h1 => ?_) (fun h1 => ?_))
  ·rw [h1,Bool.true_and,if_pos rfl]
   exact ev_now _
  ·rw [Bool.eq_false_iff.2 h1,Bool.false_and,if_neg (by decide)]
   exact ev_now _
theorem alt_impl (s : ByteArray) (hs : s.size ≤ 9223372036854775807) : Ev (fun k => impl_alternatives.f k s) ((patA s).map (List.map altP),patB s):=by
 unfold impl_alternatives.f patB patA
 refine ev_bind (printed_impl s hs 100) (ev_ite (fun h1 => ?_) (fun h1 => ?_))
 ·have h2:=prL_size h1
  rw [h1,Bool.true_and,if_pos rfl]
  exact ev_pos (by omega) (ev_now _)
 ·rw [Bool.eq_false_iff.2 h1,Bool.false_and,if_neg (by decide)]
  exact ev_now _
theorem pat_spec (s : ByteArray) (hs : s.size ≤ 9223372036854775807) : Ev (fun k => spec_GoodPattern.f k s) (patB s):=by
 unfold spec_GoodPattern.f
 exact ev_bind (alt_spec s hs) (ev_now _)
theorem pat_impl (s : ByteArray) (hs : s.size ≤ 9223372036854775807) : Ev (fun k => impl_GoodPattern.f k s) (patB s):=by
 unfold impl_GoodPattern.f
 exact ev_bind (alt_impl s hs) (ev_now _)
end Go.Proofs.Ytfdbbpnmnogddaa.U
namespace Go.Proofs.Ytfdbbpnmnogddaa.U
open Go.RowKit Go.Proofs.Ytfdbbpnmnogddaa.Pr Go.Proofs.YtfdbbpnmnogddaaW.PrintWords Go.Proofs.YtfdbbpnmnogddaaW.PrintLast Go.Proofs.YtfdbbpnmnogddaaW.PrintMore
set_option linter.unusedVariables false
set_option linter.unusedSimpArgs false
theorem any_all_String {α : Type} (P : Nat → α → Option Bool) (p : α → Bool) : ∀ l : List α,(∀ x ∈ l,Ev (fun k => P k x) (p x)) → ∃ K,∀ k,K ≤ k → ∀ x ∈ l,P k x = some (p x):=by
 intro l
 induction l with
 | nil => intro _;exact ⟨0,fun _ _ _ h => by cases h⟩
 | cons y l ih =>
  intro h
  obtain ⟨K,h1⟩:=ih (fun x hx => h x (List.mem_cons_of_mem _ hx))
  obtain ⟨K',h2⟩:=h y (List.mem_cons_self ..)
  refine ⟨max K K',fun k hk x hx => ?_⟩
  rcases List.mem_cons.1 hx with rfl|hx
  ·exact h2 k (by omega)
  ·exact h1 k (by omega) x hx
theorem any_at_String (P : ByteArray → Option Bool) (p : ByteArray → Bool) (l : List ByteArray) (hl : l.length ≤ 9223372036854775807) (h : ∀ x ∈ l,P x = some (p x)) : ∀ (d k i : Nat),i + d = l.length → d < k → ∃ r,slices_IndexFunc_string_string.l0 P l k (i : Int) = some r ∧ decide (0 ≤ r) = (l.drop i).any p:=by
 have hrd : ∀ (i : Nat) (h : i < l.length),rdOf ByteArray.empty l (i : Int) = l[i]:=fun i h => getD_lt h
 intro d
 induction d with
 | zero =>
  intro k i h1 h2
  obtain ⟨k,rfl⟩ : ∃ m,k = m + 1:=⟨k - 1,by omega⟩
  simp only [slices_IndexFunc_string_string.l0]
  rw [if_neg (by omega),List.drop_eq_nil_of_le (by omega),List.any_nil]
  exact ⟨-1,rfl,rfl⟩
 | succ d ih =>
  intro k i h1 h2
  obtain ⟨k,rfl⟩ : ∃ m,k = m + 1:=⟨k - 1,by omega⟩
  have hi : i < l.length:=by omega
  have hp : P l[i] = some (p l[i]):=h l[i] (List.getElem_mem hi)
  simp only [slices_IndexFunc_string_string.l0]
  rw [if_pos (by omega),if_pos (by omega),hrd i hi,hp,Option.bind_some,List.drop_eq_getElem_cons hi,List.any_cons,w64n hi (by omega)]
  by_cases hq : p l[i] = true
  ·rw [if_pos hq,hq,Bool.true_or]
   exact ⟨i,rfl,decide_eq_true (by omega)⟩
  ·rw [if_neg hq,Bool.eq_false_iff.2 hq,Bool.false_or]
   exact ih k (i + 1) (by omega) (by omega)
theorem any_String (P : Nat → ByteArray → Option Bool) (p : ByteArray → Bool) (l : List ByteArray) (hl : l.length ≤ 9223372036854775807) (h : ∀ x ∈ l,Ev (fun k => P k x) (p x)) : Ev (fun k => slices_ContainsFunc_string_string.f k (P k) l) (l.any p):=by
 obtain ⟨K,hK⟩:=any_all_String P p l h
 refine ⟨max K (l.length + 1),fun k hk => ?_⟩
 obtain ⟨r,h1,h2⟩:=any_at_String (P k) p l hl (hK k (by omega)) l.length k 0 (by omega) (by omega)
 have h3 : slices_IndexFunc_string_string.f k (P k) l = some r:=h1
 show ((slices_IndexFunc_string_string.f k (P k) l).bind fun j => some (decide (0 ≤ j))) = some (l.any p)
 rw [h3,Option.bind_some,h2]
 rfl
end Go.Proofs.Ytfdbbpnmnogddaa.U
namespace Go.Proofs.Ytfdbbpnmnogddaa.U
open Go.RowKit Go.Proofs.Ytfdbbpnmnogddaa.Pr Go.Proofs.YtfdbbpnmnogddaaW.PrintWords Go.Proofs.YtfdbbpnmnogddaaW.PrintLast Go.Proofs.YtfdbbpnmnogddaaW.PrintMore
set_option linter.unusedVariables false
set_option linter.unusedSimpArgs false
theorem toStringS (l : List ByteArray) (hl : (l.length ≤ 1048576 ∧ ∀ y ∈ l,y.size ≤ 1048576)) : Ev (fun k => laws_toStringS.f k l) (l):=by
 obtain ⟨hl,hs⟩:=hl
 unfold laws_toStringS.f
 repeat (first|(with_reducible refine ev_pos (by first|omega|rfl|decide) ?_)|(with_reducible refine ev_neg (by first|omega|decide) ?_))
 have key:=ev_copy (F:=fun k y i => laws_toStringS.l0 k l y i) (fun x => x) l (List.replicate ((l.length : Int) : Int).toNat (⟨#[]⟩ : ByteArray)) (by simp) ?step ?done
 case step =>
  intro i h y r hy hr
  refine ev_step (fun _ => laws_toStringS.l0.eq_2 ..) ?_
  repeat (first|(with_reducible refine ev_pos (by first|omega|rfl|decide) ?_)|(with_reducible refine ev_neg (by first|omega|decide) ?_))
  rw [rdOf_at h,w64n h (by omega),Int.toNat_natCast]
  exact hr
 case done =>
  intro y hy
  refine ev_step (fun _ => laws_toStringS.l0.eq_2 ..) ?_
  repeat (first|(with_reducible refine ev_pos (by first|omega|rfl|decide) ?_)|(with_reducible refine ev_neg (by first|omega|decide) ?_))
  exact ev_now _
 simpa using key
theorem eqStringS (l : List ByteArray) (hl : l.length ≤ 1048576) : Ev (fun k => laws_eqStringS.f k l l) true:=by
 unfold laws_eqStringS.f
 refine ev_pos rfl ?_
 refine up_ind l.length (fun i => Ev (fun k => laws_eqStringS.l0 k l l (i : Int)) true) ?_ ?_ 0 (by omega)
 ·refine ev_step (fun _ => laws_eqStringS.l0.eq_2 ..) ?_
  refine ev_neg (by omega) ?_
  exact ev_now _
 ·intro i h ih
  refine ev_step (fun _ => laws_eqStringS.l0.eq_2 ..) ?_
  repeat (first|(with_reducible refine ev_pos (by first|omega|rfl|decide) ?_)|(with_reducible refine ev_neg (by first|omega|decide) ?_))
  rw [w64n h (by omega)]
  exact ih
theorem szStringS (l : List ByteArray) (c : Int) (h0 : 0 ≤ c) (h1 : c ≤ 1048576) (hl : l.length ≤ maxLen) (hw : ∀ x ∈ l,x.size ≤ maxLen) : ∃ r,Ev (fun k => laws_szStringS.f k l c) r ∧ r ≤ c ∧ (0 ≤ r → (l.length ≤ 1048576 ∧ ∀ y ∈ l,y.size ≤ 1048576)):=by
 simp only [maxLen] at hl
 unfold laws_szStringS.f
 rw [w64 (x:=c - (l.length : Int)) (by omega) (by omega)]
 by_cases hn : c - (l.length : Int) < 0
 ·exact ⟨-1,ev_pos hn (ev_now _),by omega,fun h => absurd h (by decide)⟩
 ·have key:=up_ind l.length (fun i => ∀ c : Int,0 ≤ c → c ≤ 1048576 → ∃ r,Ev (fun k => laws_szStringS.l0 k l c (i : Int)) r ∧ r ≤ c ∧ (0 ≤ r → ∀ j (h : j < l.length),i ≤ j → l[j].size ≤ 1048576)) ?d ?s 0 (by omega) (c - (l.length : Int)) (by omega) (by omega)
  case d => exact fun c h0 h1 => ⟨c,ev_step (fun _ => laws_szStringS.l0.eq_2 ..) (ev_neg (by omega) (ev_now _)),Int.le_refl _,fun _ j h hj => by omega⟩
  case s =>
   intro i h ih c h0 h1
   have hz:=hw _ (List.getElem_mem h)
   simp only [maxLen] at hz
   by_cases hr : c - (l[i].size : Int) < 0
   ·refine ⟨-1,ev_step (fun _ => laws_szStringS.l0.eq_2 ..) ?_,by omega,fun h => absurd h (by decide)⟩
    repeat (first|(with_reducible refine ev_pos (by first|omega|rfl|decide) ?_)|(with_reducible refine ev_neg (by first|omega|decide) ?_))
    rw [rdOf_at h,w64 (x:=c - (l[i].size : Int)) (by omega) (by omega)]
    exact ev_pos hr (ev_now _)
   ·obtain ⟨r,e,hrc,hs⟩:=ih (c - (l[i].size : Int)) (by omega) (by omega)
    refine ⟨r,ev_step (fun _ => laws_szStringS.l0.eq_2 ..) ?_,by omega,fun h2 j hj hij => ?_⟩
    ·repeat (first|(with_reducible refine ev_pos (by first|omega|rfl|decide) ?_)|(with_reducible refine ev_neg (by first|omega|decide) ?_))
     rw [rdOf_at h,w64 (x:=c - (l[i].size : Int)) (by omega) (by omega)]
     refine ev_neg hr ?_
     rw [w64n h (by omega)]
     exact e
    ·by_cases ej : j = i
     ·subst ej
      omega
     ·exact hs h2 j hj (by omega)
  obtain ⟨r,e,hrc,hs⟩:=key
  refine ⟨r,ev_neg hn e,by omega,fun h => ⟨by omega,fun y hy => ?_⟩⟩
  obtain ⟨j,hj,rfl⟩:=List.getElem_of_mem hy
  exact hs h j hj (by omega)
end Go.Proofs.Ytfdbbpnmnogddaa.U
namespace Go.Proofs.Ytfdbbpnmnogddaa.U
open Go.RowKit Go.Proofs.Ytfdbbpnmnogddaa.Pr Go.Proofs.YtfdbbpnmnogddaaW.PrintWords Go.Proofs.YtfdbbpnmnogddaaW.PrintLast Go.Proofs.YtfdbbpnmnogddaaW.PrintMore
set_option linter.unusedVariables false
set_option linter.unusedSimpArgs false
def oneL (l : List Int) (a : Int) : Bool:=l.any fun y => decide (y = a)
theorem one_index (l : List Int) (hl : l.length ≤ 1048576) (s : Int) : ∃ r,Ev (fun k => slices_Index_int_int.f k l s) r ∧ decide (r ≥ 0) = oneL l s:=by
 unfold slices_Index_int_int.f oneL
 refine up_ind l.length (fun i => ∃ r,Ev (fun k => slices_Index_int_int.l0 k l s (l.length : Int) (i : Int)) r ∧ decide (r ≥ 0) = ((l.drop i).any fun y => decide (y = s))) ?_ ?_ 0 (by omega)
 ·rw [List.drop_length]
  exact ⟨-1,ev_step (fun _ => slices_Index_int_int.l0.eq_2 ..) (ev_neg (by omega) (ev_now _)),rfl⟩
 ·intro i h ⟨r,ih,hr⟩
  rw [List.drop_eq_getElem_cons h,List.any_cons]
  by_cases h1 : s = l[i]
  ·refine ⟨i,ev_step (fun _ => slices_Index_int_int.l0.eq_2 ..) (ev_pos (by omega) (ev_pos (by omega) (ev_pos (by omega) ?_))),?_⟩
   ·rw [rd_at h]
    exact ev_pos h1 (ev_now _)
   ·rw [decide_eq_true h1.symm,decide_eq_true (by omega),Bool.true_or]
  ·refine ⟨r,ev_step (fun _ => slices_Index_int_int.l0.eq_2 ..) (ev_pos (by omega) (ev_pos (by omega) (ev_pos (by omega) ?_))),?_⟩
   ·rw [rd_at h,w64n h (by omega)]
    exact ev_neg h1 ih
   ·rw [decide_eq_false (show ¬ l[i] = s from fun e => h1 e.symm),Bool.false_or]
    exact hr
theorem one_impl (l : List Int) (hl : l.length ≤ 1048576) (s : Int) : Ev (fun k => impl_isOne.f k s l) (oneL l s):=by
 obtain ⟨r,h1,h2⟩:=one_index l hl s
 unfold impl_isOne.f slices_Contains_int_int.f
 rw [← h2]
 exact ev_bind (ev_bind h1 (ev_now _)) (ev_now _)
section
variable (a : Int) (fr : List ByteArray) (sep pat tg val : ByteArray) (md : Int) (an p1 p2 tn vf : Bool)
def rJ3 (b : Bool) : Bool:=if b = true then false else if oneL [5,6,7] a = true then (if (fr.length : Int) > 0 then false else if sep.toList = [] then (if pat.toList = [] then true else !(oneL [4,8] a)) else false) else (if pat.toList = [] then true else !(oneL [4,8] a))
def rJ2 (b : Bool) : Bool:=if b = true then false else if a = 4 then (if md < 1 then rJ3 a fr sep pat true else if md > 1000 then rJ3 a fr sep pat true else rJ3 a fr sep pat false) else rJ3 a fr sep pat (md != 0)
def rJ1 (b : Bool) : Bool:=if b = true then false else if vf = true then (if val.toList = [] then rJ2 a fr sep pat md false else rJ2 a fr sep pat md (!(oneL [3,5] a))) else rJ2 a fr sep pat md true
def rJ0 (b : Bool) : Bool:=if b = true then false else if (oneL [3,4,8] a != (tg.toList != ([] : List UInt8))) = true then rJ1 a fr sep pat val md vf true else if tg.toList = [] then rJ1 a fr sep pat val md vf false else rJ1 a fr sep pat val md vf (!tn)
def rI : Bool:=if a < 1 then rJ0 a fr sep pat tg val md tn vf true else if a > 8 then rJ0 a fr sep pat tg val md tn vf true else if (fr.length : Int) > 10 then rJ0 a fr sep pat tg val md tn vf true else if an = true then rJ0 a fr sep pat tg val md tn vf true else if p1 = true then rJ0 a fr sep pat tg val md tn vf (!p2) else rJ0 a fr sep pat tg val md tn vf true
def sJ8 (b : Bool) : Bool:=if b = true then (if vf = true then (if a = 4 then (if md ≥ 1 then decide (md ≤ 1000) else false) else md == 0) else false) else (if val.toList = [] then (if a = 4 then (if md ≥ 1 then decide (md ≤ 1000) else false) else md == 0) else false)
def sJ7 : Bool:=if a = 3 then sJ8 a val md vf true else sJ8 a val md vf (a == 5)
def sJ6 (b : Bool) : Bool:=if b = true then (if tn = true then sJ7 a val md vf else false) else (if tg.toList = [] then sJ7 a val md vf else false)
def sJ5 (x6 b : Bool) : Bool:=if b = true then false else if x6 = true then sJ6 a tg val md tn vf true else sJ6 a tg val md tn vf (a == 3)
def sJ4 (b : Bool) : Bool:=if b = true then sJ5 a tg val md tn vf b (pat.toList != ([] : List UInt8)) else sJ5 a tg val md tn vf b false
def sJ3 (b : Bool) : Bool:=if b = true then false else if a = 4 then sJ4 a pat tg val md tn vf true else sJ4 a pat tg val md tn vf (a == 8)
def sJ2 (b : Bool) : Bool:=if b = true then (if (fr.length : Int) > 0 then sJ3 a pat tg val md tn vf true else sJ3 a pat tg val md tn vf (sep.toList != ([] : List UInt8))) else sJ3 a pat tg val md tn vf false
def sL : Bool:=if an = true then false else if a = 5 then sJ2 a fr sep pat tg val md tn vf true else if a = 6 then sJ2 a fr sep pat tg val md tn vf true else sJ2 a fr sep pat tg val md tn vf (a == 7)
def sJ0 (b : Bool) : Bool:=if b = true then false else sL a fr sep pat tg val md an tn vf
def sI : Bool:=if a < 1 then sJ0 a fr sep pat tg val md an tn vf true else if a > 8 then sJ0 a fr sep pat tg val md an tn vf true else if (fr.length : Int) > 10 then sJ0 a fr sep pat tg val md an tn vf true else if p1 = true then sJ0 a fr sep pat tg val md an tn vf (!p2) else sJ0 a fr sep pat tg val md an tn vf true
theorem rel_same (ht : tg.toList = [] → tn = false) (hv : val.toList = [] → vf = true) : rI a fr sep pat tg val md an p1 p2 tn vf = sI a fr sep pat tg val md an p1 p2 tn vf:=by
 by_cases ha : a < 1
 ·simp [rI,sI,ha,rJ0,sJ0]
 by_cases hb : a > 8
 ·simp [rI,sI,ha,hb,rJ0,sJ0]
 have h8 : a = 1 ∨ a = 2 ∨ a = 3 ∨ a = 4 ∨ a = 5 ∨ a = 6 ∨ a = 7 ∨ a = 8:=by omega
 cases an with
 | true => simp only [rI,sI,sJ0,sL,rJ0,if_true,if_false,ite_self,Bool.false_eq_true]
 | false =>
  cases p1 with
  | false => simp only [rI,sI,sJ0,rJ0,if_true,if_false,ite_self,Bool.false_eq_true]
  | true =>
   cases p2 with
   | false => simp only [rI,sI,sJ0,rJ0,if_true,if_false,ite_self,Bool.false_eq_true,Bool.not_false]
   | true =>
    by_cases hl : (fr.length : Int) > 10
    ·simp only [rI,sI,sJ0,rJ0,if_true,if_false,ite_self,Bool.false_eq_true,hl]
    ·have key : rJ0 a fr sep pat tg val md tn vf false = sL a fr sep pat tg val md false tn vf:=by
      by_cases t0 : tg.toList = [] <;> by_cases v0 : val.toList = [] <;> by_cases q0 : pat.toList = [] <;> by_cases s0 : sep.toList = [] <;> by_cases f0 : fr.length > 0 <;>
       (try rw [ht t0]) <;> (try rw [hv v0]) <;>
       rcases h8 with rfl|rfl|rfl|rfl|rfl|rfl|rfl|rfl <;>
       simp [rJ0,rJ1,rJ2,rJ3,sL,sJ2,sJ3,sJ4,sJ5,sJ6,sJ7,sJ8,oneL,t0,v0,q0,s0,f0] <;> (cases tn <;> cases vf <;> first|done|(by_cases m0 : md = 0 <;> simp [m0];done)|(by_cases m1 : md < 1 <;> by_cases m2 : 1000 < md <;> simp [m1,m2] <;> omega))
     simp only [rI,sI,sJ0,if_neg ha,if_neg hb,if_neg hl,if_true,if_false,Bool.false_eq_true,Bool.not_true,key]
end
section
variable (a : Int) (fr : List ByteArray) (sep pat tg val : ByteArray) (md : Int) (vf : Bool)
theorem i_j3 (b : Bool) : Ev (fun k => impl_GoodRelabel.j3 k a b a fr sep pat tg val md) (rJ3 a fr sep pat b):=by
 unfold rJ3
 exact ev_step (fun _ => impl_GoodRelabel.j3.eq_2 ..) (ev_if (ev_now _) (ev_bind (one_impl _ (by simp) _) (ev_if (ev_if (ev_now _) (ev_if (ev_if (ev_now _) (ev_bind (one_impl _ (by simp) _) (ev_now _))) (ev_now _))) (ev_if (ev_now _) (ev_bind (one_impl _ (by simp) _) (ev_now _))))))
theorem i_j2 (b : Bool) : Ev (fun k => impl_GoodRelabel.j2 k a b a fr sep pat tg val md) (rJ2 a fr sep pat md b):=by
 unfold rJ2
 exact ev_step (fun _ => impl_GoodRelabel.j2.eq_2 ..) (ev_if (ev_now _) (ev_if (ev_if (i_j3 ..) (ev_if (i_j3 ..) (i_j3 ..))) (i_j3 ..)))
theorem i_j1 (hv : Ev (fun k => impl_isFilling.f k val) vf) (b : Bool) : Ev (fun k => impl_GoodRelabel.j1 k a b a fr sep pat tg val md) (rJ1 a fr sep pat val md vf b):=by
 unfold rJ1
 exact ev_step (fun _ => impl_GoodRelabel.j1.eq_2 ..) (ev_if (ev_now _) (ev_bind hv (ev_if (ev_if (i_j2 ..) (ev_bind (one_impl _ (by simp) _) (i_j2 ..))) (i_j2 ..))))
theorem i_j0 (hv : Ev (fun k => impl_isFilling.f k val) vf) (ht : tg.size ≤ 9223372036854775807) (b : Bool) : Ev (fun k => impl_GoodRelabel.j0 k a b a fr sep pat tg val md) (rJ0 a fr sep pat tg val md (nameL (Y tg)) vf b):=by
 unfold rJ0
 exact ev_step (fun _ => impl_GoodRelabel.j0.eq_2 ..) (ev_if (ev_now _) (ev_bind (one_impl _ (by simp) _) (ev_if (i_j1 _ _ _ _ _ _ _ _ hv _) (ev_if (i_j1 _ _ _ _ _ _ _ _ hv _) (ev_bind (name_impl _ ht) (i_j1 _ _ _ _ _ _ _ _ hv _))))))
def anB : Bool:=fr.any fun x => !(nameL (Y x))
theorem rel_impl (hv : Ev (fun k => impl_isFilling.f k val) vf) (ht : tg.size ≤ 9223372036854775807) (hp : pat.size ≤ 9223372036854775807) (hs : sep.size ≤ 9223372036854775807) (hf : fr.length ≤ 9223372036854775807 ∧ ∀ x ∈ fr,x.size ≤ 9223372036854775807) :
  Ev (fun k => impl_GoodRelabel.f k a fr sep pat tg val md) (rI a fr sep pat tg val md (anB fr) (prL 10 (Y sep)) (patB pat) (nameL (Y tg)) vf):=by
 unfold rI impl_GoodRelabel.f
 have h0:=i_j0 a fr sep pat tg val md vf hv ht
 have ha : Ev (fun k => any_93_94.f k fr) (anB fr) :=
  any_String (fun k x => impl_GoodRelabel_1.f k x) (fun x => !(nameL (Y x))) fr hf.1 (fun x hx => ev_bind (name_impl x (hf.2 x hx)) (ev_now _))
 exact ev_if (h0 _) (ev_if (h0 _) (ev_if (h0 _) (ev_bind ha (ev_if (h0 _) (ev_bind (printed_impl sep hs 10) (ev_if (ev_bind (pat_impl pat hp) (h0 _)) (h0 _)))))))
theorem s_j8 (hv : Ev (fun k => spec_l4Filling.f k val) vf) (b : Bool) : Ev (fun k => spec_GoodRelabel.j8 k b a fr sep pat tg val md) (sJ8 a val md vf b):=by
 unfold sJ8
 exact ev_step (fun _ => spec_GoodRelabel.j8.eq_2 ..) (ev_if (ev_bind hv (ev_if (ev_if (ev_if (ev_now _) (ev_now _)) (ev_now _)) (ev_now _))) (ev_if (ev_if (ev_if (ev_now _) (ev_now _)) (ev_now _)) (ev_now _)))
theorem s_j7 (hv : Ev (fun k => spec_l4Filling.f k val) vf) : Ev (fun k => spec_GoodRelabel.j7 k a fr sep pat tg val md) (sJ7 a val md vf):=by
 unfold sJ7
 exact ev_step (fun _ => spec_GoodRelabel.j7.eq_2 ..) (ev_if (s_j8 _ _ _ _ _ _ _ _ hv _) (s_j8 _ _ _ _ _ _ _ _ hv _))
theorem s_j6 (hv : Ev (fun k => spec_l4Filling.f k val) vf) (ht : tg.size ≤ 9223372036854775807) (b : Bool) : Ev (fun k => spec_GoodRelabel.j6 k b a fr sep pat tg val md) (sJ6 a tg val md (nameL (Y tg)) vf b):=by
 unfold sJ6
 have h7:=s_j7 a fr sep pat tg val md vf hv
 exact ev_step (fun _ => spec_GoodRelabel.j6.eq_2 ..) (ev_if (ev_bind (name_spec _ ht) (ev_if h7 (ev_now _))) (ev_if h7 (ev_now _)))
theorem s_j5 (hv : Ev (fun k => spec_l4Filling.f k val) vf) (ht : tg.size ≤ 9223372036854775807) (x6 b : Bool) : Ev (fun k => spec_GoodRelabel.j5 k x6 b a fr sep pat tg val md) (sJ5 a tg val md (nameL (Y tg)) vf x6 b):=by
 unfold sJ5
 have h6:=s_j6 a fr sep pat tg val md vf hv ht
 exact ev_step (fun _ => spec_GoodRelabel.j5.eq_2 ..) (ev_if (ev_now _) (ev_if (h6 _) (h6 _)))
theorem s_j4 (hv : Ev (fun k => spec_l4Filling.f k val) vf) (ht : tg.size ≤ 9223372036854775807) (b : Bool) : Ev (fun k => spec_GoodRelabel.j4 k b a fr sep pat tg val md) (sJ4 a pat tg val md (nameL (Y tg)) vf b):=by
 unfold sJ4
 have h5:=s_j5 a fr sep pat tg val md vf hv ht
 exact ev_step (fun _ => spec_GoodRelabel.j4.eq_2 ..) (ev_if (h5 _ _) (h5 _ _))
theorem s_j3 (hv : Ev (fun k => spec_l4Filling.f k val) vf) (ht : tg.size ≤ 9223372036854775807) (b : Bool) : Ev (fun k => spec_GoodRelabel.j3 k b a fr sep pat tg val md) (sJ3 a pat tg val md (nameL (Y tg)) vf b):=by
 unfold sJ3
 have h4:=s_j4 a fr sep pat tg val md vf hv ht
 exact ev_step (fun _ => spec_GoodRelabel.j3.eq_2 ..) (ev_if (ev_now _) (ev_if (h4 _) (h4 _)))
theorem s_j2 (hv : Ev (fun k => spec_l4Filling.f k val) vf) (ht : tg.size ≤ 9223372036854775807) (b : Bool) : Ev (fun k => spec_GoodRelabel.j2 k b a fr sep pat tg val md) (sJ2 a fr sep pat tg val md (nameL (Y tg)) vf b):=by
 unfold sJ2
 have h3:=s_j3 a fr sep pat tg val md vf hv ht
 exact ev_step (fun _ => spec_GoodRelabel.j2.eq_2 ..) (ev_if (ev_if (h3 _) (h3 _)) (h3 _))
theorem s_l (hv : Ev (fun k => spec_l4Filling.f k val) vf) (ht : tg.size ≤ 9223372036854775807) (hf : fr.length ≤ 9223372036854775807 ∧ ∀ x ∈ fr,x.size ≤ 9223372036854775807) : Ev (fun k => spec_GoodRelabel.l0 k fr (fr.length : Int) 0 a fr sep pat tg val md) (sL a fr sep pat tg val md (anB fr) (nameL (Y tg)) vf):=by
 have h2:=s_j2 a fr sep pat tg val md vf hv ht
 refine up_ind fr.length (fun i => Ev (fun k => spec_GoodRelabel.l0 k fr (fr.length : Int) (i : Int) a fr sep pat tg val md) (sL a fr sep pat tg val md (anB (fr.drop i)) (nameL (Y tg)) vf)) ?_ ?_ 0 (by omega)
 ·rw [List.drop_length]
  unfold sL
  exact ev_step (fun _ => spec_GoodRelabel.l0.eq_2 ..) (ev_neg (by omega) (ev_if (h2 _) (ev_if (h2 _) (h2 _))))
 ·intro i h ih
  refine ev_step (fun _ => spec_GoodRelabel.l0.eq_2 ..) (ev_pos (by omega) (ev_pos (by omega) (ev_pos (by omega) ?_)))
  rw [rdOf_at h,List.drop_eq_getElem_cons h,w64n h hf.1]
  refine ev_bind (name_spec _ (hf.2 _ (List.getElem_mem h))) (ev_ite (fun h1 => ?_) (fun h1 => ?_))
  ·rw [show anB (fr[i] :: fr.drop (i + 1)) = anB (fr.drop (i + 1)) from by unfold anB;rw [List.any_cons,h1];rfl]
   exact ih
  ·rw [show anB (fr[i] :: fr.drop (i + 1)) = true from by unfold anB;rw [List.any_cons,Bool.eq_false_iff.2 h1];rfl]
   exact ev_now _
theorem rel_spec (hv : Ev (fun k => spec_l4Filling.f k val) vf) (ht : tg.size ≤ 9223372036854775807) (hp : pat.size ≤ 9223372036854775807) (hs : sep.size ≤ 9223372036854775807) (hf : fr.length ≤ 9223372036854775807 ∧ ∀ x ∈ fr,x.size ≤ 9223372036854775807) :
  Ev (fun k => spec_GoodRelabel.f k a fr sep pat tg val md) (sI a fr sep pat tg val md (anB fr) (prL 10 (Y sep)) (patB pat) (nameL (Y tg)) vf):=by
 have h0 : ∀ b,Ev (fun k => spec_GoodRelabel.j0 k b a fr sep pat tg val md) (sJ0 a fr sep pat tg val md (anB fr) (nameL (Y tg)) vf b):=by
  intro b
  unfold sJ0
  exact ev_step (fun _ => spec_GoodRelabel.j0.eq_2 ..) (ev_if (ev_now _) (s_l a fr sep pat tg val md vf hv ht hf))
 unfold sI spec_GoodRelabel.f
 refine ev_if (h0 _) (ev_if (h0 _) (ev_if (h0 _) ?_))
 refine ev_ite (fun h => ?_) (fun h => ?_)
 ·rw [if_neg (by unfold prL;rw [Y_len,decide_eq_false (by omega),Bool.false_and];decide)]
  exact h0 _
 ·rw [show prL 10 (Y sep) = (Y sep).all prC from by unfold prL;rw [Y_len,decide_eq_true (by omega),Bool.true_and]]
  exact ev_bind (printed_spec sep hs) (ev_if (ev_bind (pat_spec pat hp) (h0 _)) (h0 _))
theorem rel_two (hl : val.size ≤ 4611686018427387904) (ht : tg.size ≤ 9223372036854775807) (hp : pat.size ≤ 9223372036854775807) (hs : sep.size ≤ 9223372036854775807) (hf : fr.length ≤ 9223372036854775807 ∧ ∀ x ∈ fr,x.size ≤ 9223372036854775807) :
  ∃ v,Ev (fun k => impl_GoodRelabel.f k a fr sep pat tg val md) v ∧ Ev (fun k => spec_GoodRelabel.f k a fr sep pat tg val md) v:=by
 obtain ⟨vf,h1,h2,h3⟩:=fill_two val hl
 refine ⟨_,rel_impl a fr sep pat tg val md vf h1 ht hp hs hf,?_⟩
 rw [rel_same a fr sep pat tg val md (anB fr) (prL 10 (Y sep)) (patB pat) (nameL (Y tg)) vf (fun h => by rw [show Y tg = [] from Y_eq.symm.trans h];rfl) h3]
 exact rel_spec a fr sep pat tg val md vf h2 ht hp hs hf
end
end Go.Proofs.Ytfdbbpnmnogddaa.U
namespace Go.Proofs.Ytfdbbpnmnogddaa.U
open Go.RowKit Go.Proofs.Ytfdbbpnmnogddaa.Pr Go.Proofs.YtfdbbpnmnogddaaW.PrintWords Go.Proofs.YtfdbbpnmnogddaaW.PrintLast Go.Proofs.YtfdbbpnmnogddaaW.PrintMore
set_option linter.unusedVariables false
set_option linter.unusedSimpArgs false
theorem any_all_Relabel {α : Type} (P : Nat → α → Option Bool) (p : α → Bool) : ∀ l : List α,(∀ x ∈ l,Ev (fun k => P k x) (p x)) → ∃ K,∀ k,K ≤ k → ∀ x ∈ l,P k x = some (p x):=by
 intro l
 induction l with
 | nil => intro _;exact ⟨0,fun _ _ _ h => by cases h⟩
 | cons y l ih =>
  intro h
  obtain ⟨K,h1⟩:=ih (fun x hx => h x (List.mem_cons_of_mem _ hx))
  obtain ⟨K',h2⟩:=h y (List.mem_cons_self ..)
  refine ⟨max K K',fun k hk x hx => ?_⟩
  rcases List.mem_cons.1 hx with rfl|hx
  ·exact h2 k (by omega)
  ·exact h1 k (by omega) x hx
theorem any_at_Relabel (P : S82 → Option Bool) (p : S82 → Bool) (l : List S82) (hl : l.length ≤ 9223372036854775807) (h : ∀ x ∈ l,P x = some (p x)) : ∀ (d k i : Nat),i + d = l.length → d < k → ∃ r,impl_Relabel_92.l0 P l k (i : Int) = some r ∧ decide (0 ≤ r) = (l.drop i).any p:=by
 have hrd : ∀ (i : Nat) (h : i < l.length),rd_T82 l (i : Int) = l[i]:=fun i h => getD_lt h
 intro d
 induction d with
 | zero =>
  intro k i h1 h2
  obtain ⟨k,rfl⟩ : ∃ m,k = m + 1:=⟨k - 1,by omega⟩
  simp only [impl_Relabel_92.l0]
  rw [if_neg (by omega),List.drop_eq_nil_of_le (by omega),List.any_nil]
  exact ⟨-1,rfl,rfl⟩
 | succ d ih =>
  intro k i h1 h2
  obtain ⟨k,rfl⟩ : ∃ m,k = m + 1:=⟨k - 1,by omega⟩
  have hi : i < l.length:=by omega
  have hp : P l[i] = some (p l[i]):=h l[i] (List.getElem_mem hi)
  simp only [impl_Relabel_92.l0]
  rw [if_pos (by omega),if_pos (by omega),hrd i hi,hp,Option.bind_some,List.drop_eq_getElem_cons hi,List.any_cons,w64n hi (by omega)]
  by_cases hq : p l[i] = true
  ·rw [if_pos hq,hq,Bool.true_or]
   exact ⟨i,rfl,decide_eq_true (by omega)⟩
  ·rw [if_neg hq,Bool.eq_false_iff.2 hq,Bool.false_or]
   exact ih k (i + 1) (by omega) (by omega)
theorem any_Relabel (P : Nat → S82 → Option Bool) (p : S82 → Bool) (l : List S82) (hl : l.length ≤ 9223372036854775807) (h : ∀ x ∈ l,Ev (fun k => P k x) (p x)) : Ev (fun k => impl_Relabel_56.f k (P k) l) (l.any p):=by
 obtain ⟨K,hK⟩:=any_all_Relabel P p l h
 refine ⟨max K (l.length + 1),fun k hk => ?_⟩
 obtain ⟨r,h1,h2⟩:=any_at_Relabel (P k) p l hl (hK k (by omega)) l.length k 0 (by omega) (by omega)
 have h3 : impl_Relabel_92.f k (P k) l = some r:=h1
 show ((impl_Relabel_92.f k (P k) l).bind fun j => some (decide (0 ≤ j))) = some (l.any p)
 rw [h3,Option.bind_some,h2]
 rfl
end Go.Proofs.Ytfdbbpnmnogddaa.U
namespace Go.Proofs.Ytfdbbpnmnogddaa.U
open Go.RowKit Go.Proofs.Ytfdbbpnmnogddaa.Pr Go.Proofs.YtfdbbpnmnogddaaW.PrintWords Go.Proofs.YtfdbbpnmnogddaaW.PrintLast Go.Proofs.YtfdbbpnmnogddaaW.PrintMore
set_option linter.unusedVariables false
set_option linter.unusedSimpArgs false
def sm52 (x : S52) : Prop:=x.f0.size ≤ 1048576 ∧ x.f1.size ≤ 1048576
def cv52 (x : S52) : S56:=⟨x.f0,x.f1⟩
theorem toLabel (x : S52) (hx : sm52 x) : Ev (fun _ => laws_toLabel.f x.f0 x.f1) (x.f0,x.f1):=by
 obtain ⟨h0,h1⟩:=hx
 unfold laws_toLabel.f
 exact ev_now _
theorem eqLabel (x : S56) : Ev (fun _ => laws_eqLabel.f x.f0 x.f1 x.f0 x.f1) true:=ev_eq (by simp [laws_eqLabel.f])
def sw52 (x : S52) : Prop:=(x.f0.size ≤ maxLen) ∧ (x.f1.size ≤ maxLen)
theorem szLabel (x : S52) (c : Int) (h0 : 0 ≤ c) (h1 : c ≤ 1048576) (hw : sw52 x) : ∃ r,Ev (fun _ => laws_szLabel.f x.f0 x.f1 c) r ∧ r ≤ c ∧ (0 ≤ r → sm52 x):=by
 obtain ⟨w0,w1⟩:=hw
 unfold laws_szLabel.f
 simp only [maxLen] at w0
 rw [w64 (x:=c - (x.f0.size : Int)) (by omega) (by omega)]
 by_cases n0 : c - (x.f0.size : Int) < 0
 ·exact ⟨-1,ev_pos n0 (ev_now _),by omega,fun h => absurd h (by decide)⟩
 ·skip
  simp only [maxLen] at w1
  rw [w64 (x:=(c - (x.f0.size : Int)) - (x.f1.size : Int)) (by omega) (by omega)]
  by_cases n1 : (c - (x.f0.size : Int)) - (x.f1.size : Int) < 0
  ·exact ⟨-1,ev_neg n0 (ev_pos n1 (ev_now _)),by omega,fun h => absurd h (by decide)⟩
  ·skip
   exact ⟨_,ev_neg n0 (ev_neg n1 (ev_now _)),by omega,fun _ => ⟨by omega,by omega⟩⟩
end Go.Proofs.Ytfdbbpnmnogddaa.U
namespace Go.Proofs.Ytfdbbpnmnogddaa.U
open Go.RowKit Go.Proofs.Ytfdbbpnmnogddaa.Pr Go.Proofs.YtfdbbpnmnogddaaW.PrintWords Go.Proofs.YtfdbbpnmnogddaaW.PrintLast Go.Proofs.YtfdbbpnmnogddaaW.PrintMore
set_option linter.unusedVariables false
set_option linter.unusedSimpArgs false
theorem markText_l (m : Nat) : ∀ (c : Int) (s : ByteArray),0 ≤ c → c < 10 ^ m → c ≤ 9223372036854775807 → s.size + m < 1000 → ∃ r,Ev (fun k => laws_markText.l0 k c s) r:=by
 induction m with
 | zero =>
  intro c s h0 h1 _ h2
  simp at h1
  have hs : 1 + s.size ≤ 9223372036854775807:=by omega
  exact ⟨_,ev_step (fun _ => laws_markText.l0.eq_2 ..) (ev_neg (by omega) (ev_pos hs (ev_now _)))⟩
 | succ m ih =>
  intro c s h0 h1 h1' h2
  by_cases hc : c > 0
  ·rw [Int.pow_succ] at h1
   have e : wrap64 (Int.tdiv c 10) = c / 10:=by rw [Int.tdiv_eq_ediv_of_nonneg h0,w64 (by omega) (by omega)]
   have hz : ∀ x : Int,(strOfNums [x]).size = 1:=fun x => strOfNums_size [x]
   obtain ⟨r,hr⟩:=ih (c / 10) (strOfNums [wrap64 (48 + Int.tmod c 10) % 256] ++ s) (by omega) (by generalize (10 : Int) ^ m = p at h1 ⊢;omega) (by omega) (by rw [ByteArray.size_append,hz];omega)
   refine ⟨r,ev_step (fun _ => laws_markText.l0.eq_2 ..) (ev_pos hc (ev_some (ev_pos (by rw [hz];omega) ?_)))⟩
   rw [e]
   exact hr
  ·have hs : 1 + s.size ≤ 9223372036854775807:=by omega
   exact ⟨_,ev_step (fun _ => laws_markText.l0.eq_2 ..) (ev_neg hc (ev_pos hs (ev_now _)))⟩
theorem markText (c : Int) (h0 : 0 < c) (h1 : c ≤ 9223372036854775807) : ∃ r,Ev (fun k => laws_markText.f k c) r:=by
 obtain ⟨r,hr⟩:=markText_l 19 c ⟨#[]⟩ (by omega) (Int.lt_of_le_of_lt h1 (by decide)) h1 (by decide)
 refine ⟨r,?_⟩
 unfold laws_markText.f
 exact ev_neg (by omega) hr
end Go.Proofs.Ytfdbbpnmnogddaa.U
namespace Go.Proofs.Ytfdbbpnmnogddaa.U
open Go.RowKit Go.Proofs.Ytfdbbpnmnogddaa.Pr Go.Proofs.YtfdbbpnmnogddaaW.PrintWords Go.Proofs.YtfdbbpnmnogddaaW.PrintLast Go.Proofs.YtfdbbpnmnogddaaW.PrintMore
set_option linter.unusedVariables false
set_option linter.unusedSimpArgs false
theorem toLabelS (l : List (S52)) (hl : (l.length ≤ 1048576 ∧ ∀ y ∈ l,sm52 y)) : Ev (fun k => laws_toLabelS.f k l) (l.map cv52):=by
 obtain ⟨hl,hs⟩:=hl
 unfold laws_toLabelS.f
 repeat (first|(with_reducible refine ev_pos (by first|omega|rfl|decide) ?_)|(with_reducible refine ev_neg (by first|omega|decide) ?_))
 have key:=ev_copy (F:=fun k y i => laws_toLabelS.l0 k l y i) cv52 l (List.replicate ((l.length : Int) : Int).toNat z56) (by simp) ?step ?done
 case step =>
  intro i h y r hy hr
  refine ev_step (fun _ => laws_toLabelS.l0.eq_2 ..) ?_
  repeat (first|(with_reducible refine ev_pos (by first|omega|rfl|decide) ?_)|(with_reducible refine ev_neg (by first|omega|decide) ?_))
  rw [(show rd_T52 l (i : Int) = l[i] from getD_lt h)]
  refine ev_bind (toLabel l[i] (hs _ (List.getElem_mem h))) ?_
  repeat (first|(with_reducible refine ev_pos (by first|omega|rfl|decide) ?_)|(with_reducible refine ev_neg (by first|omega|decide) ?_))
  rw [w64n h (by omega),Int.toNat_natCast]
  exact hr
 case done =>
  intro y hy
  refine ev_step (fun _ => laws_toLabelS.l0.eq_2 ..) ?_
  repeat (first|(with_reducible refine ev_pos (by first|omega|rfl|decide) ?_)|(with_reducible refine ev_neg (by first|omega|decide) ?_))
  exact ev_now _
 exact key
theorem eqLabelS (l : List (S56)) (hl : l.length ≤ 1048576) : Ev (fun k => laws_eqLabelS.f k l l) true:=by
 unfold laws_eqLabelS.f
 refine ev_pos rfl ?_
 refine up_ind l.length (fun i => Ev (fun k => laws_eqLabelS.l0 k l l (i : Int)) true) ?_ ?_ 0 (by omega)
 ·refine ev_step (fun _ => laws_eqLabelS.l0.eq_2 ..) ?_
  refine ev_neg (by omega) ?_
  exact ev_now _
 ·intro i h ih
  refine ev_step (fun _ => laws_eqLabelS.l0.eq_2 ..) ?_
  repeat (first|(with_reducible refine ev_pos (by first|omega|rfl|decide) ?_)|(with_reducible refine ev_neg (by first|omega|decide) ?_))
  refine ev_bind (eqLabel _) ?_
  refine ev_pos rfl ?_
  rw [w64n h (by omega)]
  exact ih
theorem szLabelS (l : List (S52)) (c : Int) (h0 : 0 ≤ c) (h1 : c ≤ 1048576) (hl : l.length ≤ maxLen) (hw : ∀ x ∈ l,sw52 x) : ∃ r,Ev (fun k => laws_szLabelS.f k l c) r ∧ r ≤ c ∧ (0 ≤ r → (l.length ≤ 1048576 ∧ ∀ y ∈ l,sm52 y)):=by
 simp only [maxLen] at hl
 unfold laws_szLabelS.f
 rw [w64 (x:=c - (l.length : Int)) (by omega) (by omega)]
 by_cases hn : c - (l.length : Int) < 0
 ·exact ⟨-1,ev_pos hn (ev_now _),by omega,fun h => absurd h (by decide)⟩
 ·have key:=up_ind l.length (fun i => ∀ c : Int,0 ≤ c → c ≤ 1048576 → ∃ r,Ev (fun k => laws_szLabelS.l0 k l c (i : Int)) r ∧ r ≤ c ∧ (0 ≤ r → ∀ j (h : j < l.length),i ≤ j → sm52 l[j])) ?d ?s 0 (by omega) (c - (l.length : Int)) (by omega) (by omega)
  case d => exact fun c h0 h1 => ⟨c,ev_step (fun _ => laws_szLabelS.l0.eq_2 ..) (ev_neg (by omega) (ev_now _)),Int.le_refl _,fun _ j h hj => by omega⟩
  case s =>
   intro i h ih c h0 h1
   obtain ⟨r1,e1,hr1,hs1⟩:=szLabel l[i] c h0 h1 (hw _ (List.getElem_mem h))
   by_cases hr : r1 < 0
   ·refine ⟨-1,ev_step (fun _ => laws_szLabelS.l0.eq_2 ..) ?_,by omega,fun h => absurd h (by decide)⟩
    repeat (first|(with_reducible refine ev_pos (by first|omega|rfl|decide) ?_)|(with_reducible refine ev_neg (by first|omega|decide) ?_))
    rw [(show rd_T52 l (i : Int) = l[i] from getD_lt h)]
    exact ev_bind e1 (ev_pos hr (ev_now _))
   ·obtain ⟨r,e,hrc,hs⟩:=ih (r1) (by omega) (by omega)
    refine ⟨r,ev_step (fun _ => laws_szLabelS.l0.eq_2 ..) ?_,by omega,fun h2 j hj hij => ?_⟩
    ·repeat (first|(with_reducible refine ev_pos (by first|omega|rfl|decide) ?_)|(with_reducible refine ev_neg (by first|omega|decide) ?_))
     rw [(show rd_T52 l (i : Int) = l[i] from getD_lt h)]
     refine ev_bind e1 (ev_neg hr ?_)
     rw [w64n h (by omega)]
     exact e
    ·by_cases ej : j = i
     ·subst ej
      exact hs1 (by omega)
     ·exact hs h2 j hj (by omega)
  obtain ⟨r,e,hrc,hs⟩:=key
  refine ⟨r,ev_neg hn e,by omega,fun h => ⟨by omega,fun y hy => ?_⟩⟩
  obtain ⟨j,hj,rfl⟩:=List.getElem_of_mem hy
  exact hs h j hj (by omega)
theorem markLabelS (l : List (S56)) (hl : l.length ≤ 1048576) (c : Int) (h0 : 0 < c) (h1 : c ≤ 4611686018427387904) : ∃ y c',Ev (fun k => laws_markLabelS.f k l c) (c',y) ∧ Ev (fun k => laws_heldLabelS.f k y c) c' ∧ c ≤ c' ∧ c' ≤ c + 2 * l.length:=by
 have key:=up_ind l.length (fun i => ∀ (x : List (S56)) (c : Int),x.length = l.length → 0 < c → c + 2 * (l.length - i : Nat) ≤ 9000000000000000000 → ∃ y c',Ev (fun k => laws_markLabelS.l0 k x c (i : Int)) (c',y) ∧ Ev (fun k => laws_heldLabelS.l0 k y c (i : Int)) c' ∧ y.length = l.length ∧ (∀ j,j < i → y[j]? = x[j]?) ∧ c ≤ c' ∧ c' ≤ c + 2 * (l.length - i : Nat)) ?d ?s 0 (by omega) l c rfl h0 (by omega)
 case d =>
  intro x c hx h0 h1
  refine ⟨x,c,ev_step (fun _ => laws_markLabelS.l0.eq_2 ..) (ev_neg (by omega) (ev_now _)),ev_step (fun _ => laws_heldLabelS.l0.eq_2 ..) (ev_neg (by omega) (ev_now _)),hx,fun _ _ => rfl,by omega,by omega⟩
 case s =>
  intro i h ih x c hx h0 h1
  obtain ⟨s0,es0⟩:=markText (c) (by omega) (by omega)
  obtain ⟨s1,es1⟩:=markText (c + 1) (by omega) (by omega)
  have w1 : wrap64 (c + 1) = c + 1:=(w64 (by omega) (by omega)).trans (by omega)
  have w2 : wrap64 ((c + 1) + 1) = c + 2:=(w64 (by omega) (by omega)).trans (by omega)
  have wi : wrap64 ((i : Int) + 1) = ((i + 1 : Nat) : Int):=w64n h (by omega)
  have hset : ∀ a,rd_T56 (x.set i a) (i : Int) = a:=fun a => by rw [show rd_T56 (x.set i a) (i : Int) = (x.set i a)[i]'(by simp;omega) from getD_lt (by simp;omega)];simp
  obtain ⟨y,c',e1,e2,hy,hj,q1,q2⟩:=ih (x.set i ⟨s0,s1⟩) (c + 2) (by simp [hx]) (by omega) (by omega)
  refine ⟨y,c',ev_step (fun _ => laws_markLabelS.l0.eq_2 ..) ?_,ev_step (fun _ => laws_heldLabelS.l0.eq_2 ..) ?_,hy,fun j h' => ?_,by omega,by omega⟩
  ·simp only [w1,w2,wi,Int.toNat_natCast]
   repeat (first|(with_reducible refine ev_pos (by first|omega|rfl|decide) ?_)|(with_reducible refine ev_some ?_)|(with_reducible refine ev_bind es0 ?_)|(with_reducible refine ev_bind es1 ?_))
   simp only [hset,List.set_set]
   exact e1
  ·have ey : rd_T56 y (i : Int) = ⟨s0,s1⟩:=by
    have:=hj i (by omega)
    rw [List.getElem?_set_self (by omega),List.getElem?_eq_getElem (by omega)] at this
    rw [show rd_T56 y (i : Int) = y[i]'(by omega) from getD_lt (by omega)]
    exact Option.some.inj this
   simp only [ey,w1,w2,wi]
   repeat (first|(with_reducible refine ev_pos (by first|omega|rfl|decide) ?_)|(with_reducible refine ev_bind es0 ?_)|(with_reducible refine ev_bind es1 ?_))
   exact e2
  ·rw [hj j (by omega),List.getElem?_set_ne (by omega)]
 obtain ⟨y,c',e1,e2,_,_,q1,q2⟩:=key
 exact ⟨y,c',e1,e2,q1,by omega⟩
end Go.Proofs.Ytfdbbpnmnogddaa.U
namespace Go.Proofs.Ytfdbbpnmnogddaa.U
open Go.RowKit Go.Proofs.Ytfdbbpnmnogddaa.Pr Go.Proofs.YtfdbbpnmnogddaaW.PrintWords Go.Proofs.YtfdbbpnmnogddaaW.PrintLast Go.Proofs.YtfdbbpnmnogddaaW.PrintMore
set_option linter.unusedVariables false
set_option linter.unusedSimpArgs false
def sm76 (x : S76) : Prop:=(x.f1.length ≤ 1048576 ∧ ∀ y ∈ x.f1,y.size ≤ 1048576) ∧ x.f2.size ≤ 1048576 ∧ x.f3.size ≤ 1048576 ∧ x.f4.size ≤ 1048576 ∧ x.f5.size ≤ 1048576
def cv76 (x : S76) : S82:=⟨x.f0,x.f1,x.f2,x.f3,x.f4,x.f5,x.f6⟩
theorem toRelabel (x : S76) (hx : sm76 x) : Ev (fun k => laws_toRelabel.f k x.f0 x.f1 x.f2 x.f3 x.f4 x.f5 x.f6) (x.f0,x.f1,x.f2,x.f3,x.f4,x.f5,x.f6):=by
 obtain ⟨h1,h2,h3,h4,h5⟩:=hx
 unfold laws_toRelabel.f
 refine ev_bind (toStringS _ h1) ?_
 exact ev_now _
def se82 (x : S82) : Prop:=(x.f1.length ≤ 1048576)
theorem eqRelabel (x : S82) (hx : se82 x) : Ev (fun k => laws_eqRelabel.f k x.f0 x.f1 x.f2 x.f3 x.f4 x.f5 x.f6 x.f0 x.f1 x.f2 x.f3 x.f4 x.f5 x.f6) true:=by
 have h1:=hx
 unfold laws_eqRelabel.f
 refine ev_pos rfl ?_
 refine ev_bind (eqStringS _ h1) ?_
 refine ev_pos rfl ?_
 refine ev_pos rfl ?_
 refine ev_pos rfl ?_
 refine ev_pos rfl ?_
 refine ev_pos rfl ?_
 refine ev_pos rfl ?_
 exact ev_now _
def sw76 (x : S76) : Prop:=(x.f1.length ≤ maxLen ∧ ∀ y ∈ x.f1,y.size ≤ maxLen) ∧ (x.f2.size ≤ maxLen) ∧ (x.f3.size ≤ maxLen) ∧ (x.f4.size ≤ maxLen) ∧ (x.f5.size ≤ maxLen)
theorem szRelabel (x : S76) (c : Int) (h0 : 0 ≤ c) (h1 : c ≤ 1048576) (hw : sw76 x) : ∃ r,Ev (fun k => laws_szRelabel.f k x.f0 x.f1 x.f2 x.f3 x.f4 x.f5 x.f6 c) r ∧ r ≤ c ∧ (0 ≤ r → sm76 x):=by
 obtain ⟨w1,w2,w3,w4,w5⟩:=hw
 unfold laws_szRelabel.f
 obtain ⟨r1,e1,q1,s1⟩:=szStringS x.f1 c (by omega) (by omega) w1.1 w1.2
 by_cases n1 : r1 < 0
 ·exact ⟨-1,ev_bind e1 (ev_pos n1 (ev_now _)),by omega,fun h => absurd h (by decide)⟩
 ·skip
  simp only [maxLen] at w2
  have x2 : wrap64 (r1 - (x.f2.size : Int)) = r1 - (x.f2.size : Int):=w64 (by omega) (by omega)
  by_cases n2 : r1 - (x.f2.size : Int) < 0
  ·exact ⟨-1,ev_bind e1 (ev_neg n1 (ev_pos (by rw [x2];exact n2) (ev_now _))),by omega,fun h => absurd h (by decide)⟩
  ·skip
   simp only [maxLen] at w3
   have x3 : wrap64 ((r1 - (x.f2.size : Int)) - (x.f3.size : Int)) = (r1 - (x.f2.size : Int)) - (x.f3.size : Int):=w64 (by omega) (by omega)
   by_cases n3 : (r1 - (x.f2.size : Int)) - (x.f3.size : Int) < 0
   ·exact ⟨-1,ev_bind e1 (ev_neg n1 (ev_neg (by rw [x2];exact n2) (ev_pos (by rw [x2,x3];exact n3) (ev_now _)))),by omega,fun h => absurd h (by decide)⟩
   ·skip
    simp only [maxLen] at w4
    have x4 : wrap64 (((r1 - (x.f2.size : Int)) - (x.f3.size : Int)) - (x.f4.size : Int)) = ((r1 - (x.f2.size : Int)) - (x.f3.size : Int)) - (x.f4.size : Int):=w64 (by omega) (by omega)
    by_cases n4 : ((r1 - (x.f2.size : Int)) - (x.f3.size : Int)) - (x.f4.size : Int) < 0
    ·exact ⟨-1,ev_bind e1 (ev_neg n1 (ev_neg (by rw [x2];exact n2) (ev_neg (by rw [x2,x3];exact n3) (ev_pos (by rw [x2,x3,x4];exact n4) (ev_now _))))),by omega,fun h => absurd h (by decide)⟩
    ·skip
     simp only [maxLen] at w5
     have x5 : wrap64 ((((r1 - (x.f2.size : Int)) - (x.f3.size : Int)) - (x.f4.size : Int)) - (x.f5.size : Int)) = (((r1 - (x.f2.size : Int)) - (x.f3.size : Int)) - (x.f4.size : Int)) - (x.f5.size : Int):=w64 (by omega) (by omega)
     by_cases n5 : (((r1 - (x.f2.size : Int)) - (x.f3.size : Int)) - (x.f4.size : Int)) - (x.f5.size : Int) < 0
     ·exact ⟨-1,ev_bind e1 (ev_neg n1 (ev_neg (by rw [x2];exact n2) (ev_neg (by rw [x2,x3];exact n3) (ev_neg (by rw [x2,x3,x4];exact n4) (ev_pos (by rw [x2,x3,x4,x5];exact n5) (ev_now _)))))),by omega,fun h => absurd h (by decide)⟩
     ·skip
      exact ⟨((((r1 - (x.f2.size : Int)) - (x.f3.size : Int)) - (x.f4.size : Int)) - (x.f5.size : Int)),ev_bind e1 (ev_neg n1 (ev_neg (by rw [x2];exact n2) (ev_neg (by rw [x2,x3];exact n3) (ev_neg (by rw [x2,x3,x4];exact n4) (ev_neg (by rw [x2,x3,x4,x5];exact n5) ((by rw [x2,x3,x4,x5];exact ev_now _))))))),by omega,fun _ => ⟨s1 (by omega),by omega,by omega,by omega,by omega⟩⟩
end Go.Proofs.Ytfdbbpnmnogddaa.U
namespace Go.Proofs.Ytfdbbpnmnogddaa.U
open Go.RowKit Go.Proofs.Ytfdbbpnmnogddaa.Pr Go.Proofs.YtfdbbpnmnogddaaW.PrintWords Go.Proofs.YtfdbbpnmnogddaaW.PrintLast Go.Proofs.YtfdbbpnmnogddaaW.PrintMore
set_option linter.unusedVariables false
set_option linter.unusedSimpArgs false
theorem toRelabelS (l : List (S76)) (hl : (l.length ≤ 1048576 ∧ ∀ y ∈ l,sm76 y)) : Ev (fun k => laws_toRelabelS.f k l) (l.map cv76):=by
 obtain ⟨hl,hs⟩:=hl
 unfold laws_toRelabelS.f
 repeat (first|(with_reducible refine ev_pos (by first|omega|rfl|decide) ?_)|(with_reducible refine ev_neg (by first|omega|decide) ?_))
 have key:=ev_copy (F:=fun k y i => laws_toRelabelS.l0 k l y i) cv76 l (List.replicate ((l.length : Int) : Int).toNat z82) (by simp) ?step ?done
 case step =>
  intro i h y r hy hr
  refine ev_step (fun _ => laws_toRelabelS.l0.eq_2 ..) ?_
  repeat (first|(with_reducible refine ev_pos (by first|omega|rfl|decide) ?_)|(with_reducible refine ev_neg (by first|omega|decide) ?_))
  rw [(show rd_T76 l (i : Int) = l[i] from getD_lt h)]
  refine ev_bind (toRelabel l[i] (hs _ (List.getElem_mem h))) ?_
  repeat (first|(with_reducible refine ev_pos (by first|omega|rfl|decide) ?_)|(with_reducible refine ev_neg (by first|omega|decide) ?_))
  rw [w64n h (by omega),Int.toNat_natCast]
  exact hr
 case done =>
  intro y hy
  refine ev_step (fun _ => laws_toRelabelS.l0.eq_2 ..) ?_
  repeat (first|(with_reducible refine ev_pos (by first|omega|rfl|decide) ?_)|(with_reducible refine ev_neg (by first|omega|decide) ?_))
  exact ev_now _
 exact key
theorem eqRelabelS (l : List (S82)) (hl : l.length ≤ 1048576) (hs : ∀ x ∈ l,se82 x) : Ev (fun k => laws_eqRelabelS.f k l l) true:=by
 unfold laws_eqRelabelS.f
 refine ev_pos rfl ?_
 refine up_ind l.length (fun i => Ev (fun k => laws_eqRelabelS.l0 k l l (i : Int)) true) ?_ ?_ 0 (by omega)
 ·refine ev_step (fun _ => laws_eqRelabelS.l0.eq_2 ..) ?_
  refine ev_neg (by omega) ?_
  exact ev_now _
 ·intro i h ih
  refine ev_step (fun _ => laws_eqRelabelS.l0.eq_2 ..) ?_
  repeat (first|(with_reducible refine ev_pos (by first|omega|rfl|decide) ?_)|(with_reducible refine ev_neg (by first|omega|decide) ?_))
  rw [(show rd_T82 l (i : Int) = l[i] from getD_lt h)]
  refine ev_bind (eqRelabel l[i] (hs _ (List.getElem_mem h))) ?_
  refine ev_pos rfl ?_
  rw [w64n h (by omega)]
  exact ih
theorem szRelabelS (l : List (S76)) (c : Int) (h0 : 0 ≤ c) (h1 : c ≤ 1048576) (hl : l.length ≤ maxLen) (hw : ∀ x ∈ l,sw76 x) : ∃ r,Ev (fun k => laws_szRelabelS.f k l c) r ∧ r ≤ c ∧ (0 ≤ r → (l.length ≤ 1048576 ∧ ∀ y ∈ l,sm76 y)):=by
 simp only [maxLen] at hl
 unfold laws_szRelabelS.f
 rw [w64 (x:=c - (l.length : Int)) (by omega) (by omega)]
 by_cases hn : c - (l.length : Int) < 0
 ·exact ⟨-1,ev_pos hn (ev_now _),by omega,fun h => absurd h (by decide)⟩
 ·have key:=up_ind l.length (fun i => ∀ c : Int,0 ≤ c → c ≤ 1048576 → ∃ r,Ev (fun k => laws_szRelabelS.l0 k l c (i : Int)) r ∧ r ≤ c ∧ (0 ≤ r → ∀ j (h : j < l.length),i ≤ j → sm76 l[j])) ?d ?s 0 (by omega) (c - (l.length : Int)) (by omega) (by omega)
  case d => exact fun c h0 h1 => ⟨c,ev_step (fun _ => laws_szRelabelS.l0.eq_2 ..) (ev_neg (by omega) (ev_now _)),Int.le_refl _,fun _ j h hj => by omega⟩
  case s =>
   intro i h ih c h0 h1
   obtain ⟨r1,e1,hr1,hs1⟩:=szRelabel l[i] c h0 h1 (hw _ (List.getElem_mem h))
   by_cases hr : r1 < 0
   ·refine ⟨-1,ev_step (fun _ => laws_szRelabelS.l0.eq_2 ..) ?_,by omega,fun h => absurd h (by decide)⟩
    repeat (first|(with_reducible refine ev_pos (by first|omega|rfl|decide) ?_)|(with_reducible refine ev_neg (by first|omega|decide) ?_))
    rw [(show rd_T76 l (i : Int) = l[i] from getD_lt h)]
    exact ev_bind e1 (ev_pos hr (ev_now _))
   ·obtain ⟨r,e,hrc,hs⟩:=ih (r1) (by omega) (by omega)
    refine ⟨r,ev_step (fun _ => laws_szRelabelS.l0.eq_2 ..) ?_,by omega,fun h2 j hj hij => ?_⟩
    ·repeat (first|(with_reducible refine ev_pos (by first|omega|rfl|decide) ?_)|(with_reducible refine ev_neg (by first|omega|decide) ?_))
     rw [(show rd_T76 l (i : Int) = l[i] from getD_lt h)]
     refine ev_bind e1 (ev_neg hr ?_)
     rw [w64n h (by omega)]
     exact e
    ·by_cases ej : j = i
     ·subst ej
      exact hs1 (by omega)
     ·exact hs h2 j hj (by omega)
  obtain ⟨r,e,hrc,hs⟩:=key
  refine ⟨r,ev_neg hn e,by omega,fun h => ⟨by omega,fun y hy => ?_⟩⟩
  obtain ⟨j,hj,rfl⟩:=List.getElem_of_mem hy
  exact hs h j hj (by omega)
end Go.Proofs.Ytfdbbpnmnogddaa.U
namespace Go.Proofs.Ytfdbbpnmnogddaa.U
open Go.RowKit Go.Proofs.Ytfdbbpnmnogddaa.Pr Go.Proofs.YtfdbbpnmnogddaaW.PrintWords Go.Proofs.YtfdbbpnmnogddaaW.PrintLast Go.Proofs.YtfdbbpnmnogddaaW.PrintMore
set_option linter.unusedVariables false
set_option linter.unusedSimpArgs false
theorem fitL_cv (l : List S52) (h : l.length ≤ 1048576 ∧ ∀ x ∈ l,sm52 x) : fitL (l.map cv52):=by
 refine ⟨by rw [List.length_map];omega,fun x hx => ?_⟩
 obtain ⟨y,hy,rfl⟩:=List.mem_map.1 hx
 obtain ⟨h1,h2⟩:=h.2 y hy
 exact ⟨by show y.f0.size ≤ _;omega,by show y.f1.size ≤ _;omega⟩
end Go.Proofs.Ytfdbbpnmnogddaa.U
namespace Go.Proofs.Ytfdbbpnmnogddaa.U
open Go.RowKit Go.Proofs.Ytfdbbpnmnogddaa.Pr Go.Proofs.YtfdbbpnmnogddaaW.PrintWords Go.Proofs.YtfdbbpnmnogddaaW.PrintLast Go.Proofs.YtfdbbpnmnogddaaW.PrintMore
set_option linter.unusedVariables false
set_option linter.unusedSimpArgs false
theorem ev_and {c : Prop} [Decidable c] {a : Nat → Option Bool} {x : Bool} (h : Ev a x) : Ev (fun k => if c then a k else some false) (decide c && x):=by
 by_cases hc : c
 ·rw [decide_eq_true hc,Bool.true_and];exact ev_pos hc h
 ·rw [decide_eq_false hc,Bool.false_and];exact ev_neg hc (ev_now _)
theorem ev_andb {b : Bool} {a : Nat → Option Bool} {x : Bool} (h : Ev a x) : Ev (fun k => if b = true then a k else some false) (b && x):=by
 cases b with
 | true => exact ev_pos rfl h
 | false => exact ev_neg (by decide) (ev_now _)
def relEv (x : S82) (b : Bool) : Prop:=Ev (fun k => impl_GoodRelabel.f k x.f0 x.f1 x.f2 x.f3 x.f4 x.f5 x.f6) b
noncomputable def relB (x : S82) : Bool:=@decide (relEv x true) (Classical.propDecidable _)
def fitR (x : S82) : Prop:=(x.f1.length ≤ 9223372036854775807 ∧ ∀ y ∈ x.f1,y.size ≤ 9223372036854775807) ∧ x.f2.size ≤ 9223372036854775807 ∧ x.f3.size ≤ 9223372036854775807 ∧ x.f4.size ≤ 9223372036854775807 ∧ x.f5.size ≤ 4611686018427387904
theorem relB_two (x : S82) (h : fitR x) : relEv x (relB x) ∧ Ev (fun k => spec_GoodRelabel.f k x.f0 x.f1 x.f2 x.f3 x.f4 x.f5 x.f6) (relB x):=by
 obtain ⟨h1,h2,h3,h4,h5⟩:=h
 obtain ⟨v,e1,e2⟩:=rel_two x.f0 x.f1 x.f2 x.f3 x.f4 x.f5 x.f6 h5 h4 h3 h2 h1
 have : relB x = v:=by
  unfold relB
  cases v with
  | true => exact @decide_eq_true _ (Classical.propDecidable _) e1
  | false => exact @decide_eq_false _ (Classical.propDecidable _) (fun h => Bool.noConfusion (ev_one h e1))
 rw [this]
 exact ⟨e1,e2⟩
def fitRs (l : List S82) : Prop:=l.length ≤ 9223372036854775807 ∧ ∀ x ∈ l,fitR x
noncomputable def rulesB (l : List S82) : Bool:=decide (l.length ≤ 30) && l.all relB
theorem rules_spec (l : List S82) (hf : fitRs l) : Ev (fun k => spec_l4Rules.f k l) (rulesB l):=by
 have hrd : ∀ (i : Nat) (h : i < l.length),rd_T82 l (i : Int) = l[i]:=fun i h => getD_lt h
 unfold spec_l4Rules.f rulesB
 refine ev_ite (fun h => ?_) (fun h => ?_)
 ·rw [decide_eq_false (by omega),Bool.false_and];exact ev_now _
 ·rw [decide_eq_true (by omega),Bool.true_and]
  refine up_ind l.length (fun i => Ev (fun k => spec_l4Rules.l0 k l (l.length : Int) (i : Int)) ((l.drop i).all relB)) ?_ ?_ 0 (by omega)
  ·rw [List.drop_length]
   exact ev_step (fun _ => spec_l4Rules.l0.eq_2 ..) (ev_neg (by omega) (ev_now _))
  ·intro i h ih
   refine ev_step (fun _ => spec_l4Rules.l0.eq_2 ..) (ev_pos (by omega) (ev_pos (by omega) (ev_pos (by omega) ?_)))
   rw [hrd i h,List.drop_eq_getElem_cons h,List.all_cons,w64n h (by omega)]
   refine ev_bind (relB_two l[i] (hf.2 _ (List.getElem_mem h))).2 (ev_ite (fun h1 => ?_) (fun h1 => ?_))
   ·rw [h1,Bool.true_and];exact ih
   ·rw [Bool.eq_false_iff.2 h1,Bool.false_and];exact ev_now _
theorem any_rules (l : List S82) (hf : fitRs l) : Ev (fun k => any_56_57.f k l) (l.any fun x => !(relB x)) :=
 any_Relabel (fun k x => impl_GoodTarget_1.f k x.f0 x.f1 x.f2 x.f3 x.f4 x.f5 x.f6) (fun x => !(relB x)) l hf.1 (fun x hx => ev_bind (relB_two x (hf.2 x hx)).1 (ev_now _))
def nameT : ByteArray:=⟨#[95,110,97,109,101]⟩
noncomputable def tgtB (l : List S56) (ev li : Int) (rs : List S82) : Bool:=goodL l && (decide ((l.length : Int) < 20) && (decide ((ofL nameT l).toList = []) && (decide (ev ≥ 1) && (decide (ev ≤ 3600) && (decide (li ≥ 0) && (decide (li ≤ 1000) && rulesB rs))))))
theorem target_impl (l : List S56) (ev li : Int) (ho : Bool) (rs : List S82) (hl : fitL l) (hr : fitRs rs) : Ev (fun k => impl_GoodTarget.f k l ev li ho rs) (tgtB l ev li rs):=by
 unfold impl_GoodTarget.f tgtB
 refine ev_bind (goodLabels_impl _ hl) (ev_andb (ev_and (ev_bind (of_impl _ hl.1 _) (ev_and (ev_and (ev_and (ev_and (ev_and ?_))))))))
 unfold rulesB
 refine ev_ite (fun h => ?_) (fun h => ?_)
 ·rw [decide_eq_true (by omega),Bool.true_and,show rs.all relB = !(rs.any fun x => !(relB x)) from by rw [List.not_any_eq_all_not];simp]
  exact ev_bind (any_rules rs hr) (ev_now _)
 ·rw [decide_eq_false (by omega),Bool.false_and];exact ev_now _
theorem target_spec (l : List S56) (ev li : Int) (ho : Bool) (rs : List S82) (hl : fitL l) (hr : fitRs rs) : Ev (fun k => spec_GoodTarget.f k l ev li ho rs) (tgtB l ev li rs):=by
 have hb : Ev (fun k => spec_l5Bare.f k l) (goodL l && (decide ((l.length : Int) < 20) && decide ((ofL nameT l).toList = []))):=by
  unfold spec_l5Bare.f
  refine ev_bind (goodLabels_spec _ hl) (ev_andb (ev_and (ev_bind (of_spec _ hl.1 _) ?_)))
  show Ev (fun _ => some ((ofL nameT l).toList == ([] : List UInt8))) (decide ((ofL nameT l).toList = []))
  rw [show ((ofL nameT l).toList == ([] : List UInt8)) = decide ((ofL nameT l).toList = []) from by by_cases h : (ofL nameT l).toList = [] <;> simp [h]]
  exact ev_now _
 unfold spec_GoodTarget.f tgtB
 rw [show ∀ a b c d : Bool,(a && (b && (c && d))) = ((a && (b && c)) && d) from by decide]
 exact ev_bind hb (ev_andb (ev_and (ev_and (ev_and (ev_and (ev_bind (rules_spec rs hr) (ev_now _)))))))
theorem fitRs_cv (l : List S76) (h : l.length ≤ 1048576 ∧ ∀ x ∈ l,sm76 x) : fitRs (l.map cv76):=by
 refine ⟨by rw [List.length_map];omega,fun x hx => ?_⟩
 obtain ⟨y,hy,rfl⟩:=List.mem_map.1 hx
 obtain ⟨⟨h0,h1⟩,h2,h3,h4,h5⟩:=h.2 y hy
 exact ⟨⟨by show y.f1.length ≤ _;omega,fun z hz => by have:=h1 z hz;omega⟩,by show y.f2.size ≤ _;omega,by show y.f3.size ≤ _;omega,by show y.f4.size ≤ _;omega,by show y.f5.size ≤ _;omega⟩
theorem seR_cv (l : List S76) (h : l.length ≤ 1048576 ∧ ∀ x ∈ l,sm76 x) : ∀ x ∈ l.map cv76,se82 x:=by
 intro x hx
 obtain ⟨y,hy,rfl⟩:=List.mem_map.1 hx
 exact (h.2 y hy).1.1
section
variable (l : List S52) (ev li : Int) (ho : Bool) (rs : List S76)
theorem to_target (hl : l.length ≤ 1048576 ∧ ∀ y ∈ l,sm52 y) (hr : rs.length ≤ 1048576 ∧ ∀ y ∈ rs,sm76 y) : Ev (fun k => laws_toTarget.f k l ev li ho rs) (l.map cv52,ev,li,ho,rs.map cv76):=by
 unfold laws_toTarget.f
 exact ev_bind (toLabelS l hl) (ev_bind (toRelabelS rs hr) (ev_now _))
theorem eq_target (hl : l.length ≤ 1048576 ∧ ∀ y ∈ l,sm52 y) (hr : rs.length ≤ 1048576 ∧ ∀ y ∈ rs,sm76 y) : Ev (fun k => laws_eqTarget.f k (l.map cv52) ev li ho (rs.map cv76) (l.map cv52) ev li ho (rs.map cv76)) true:=by
 unfold laws_eqTarget.f
 refine ev_bind (eqLabelS _ (by rw [List.length_map];exact hl.1)) (ev_pos rfl (ev_pos rfl (ev_pos rfl (ev_neg (by simp) (ev_bind (eqRelabelS _ (by rw [List.length_map];exact hr.1) (seR_cv rs hr)) (ev_pos rfl (ev_now _)))))))
end
end Go.Proofs.Ytfdbbpnmnogddaa.U
namespace Go.Proofs.Ytfdbbpnmnogddaa.U
open Go.RowKit Go.Proofs.Ytfdbbpnmnogddaa.Pr Go.Proofs.YtfdbbpnmnogddaaW.PrintWords Go.Proofs.YtfdbbpnmnogddaaW.PrintLast Go.Proofs.YtfdbbpnmnogddaaW.PrintMore
set_option linter.unusedVariables false
set_option linter.unusedSimpArgs false
theorem riseL_pw : ∀ (l : List S56) (p : Option (List UInt8)),riseL p l = true → l.Pairwise (fun a b => cmpL (Y a.f0) (Y b.f0) < 0) ∧ ∀ q,p = some q → ∀ x ∈ l,cmpL q (Y x.f0) < 0:=by
 intro l
 induction l with
 | nil => intro p _;exact ⟨List.Pairwise.nil,fun _ _ x hx => by cases hx⟩
 | cons x xs ih =>
  intro p h
  simp only [riseL,Bool.and_eq_true] at h
  obtain ⟨h1,h2⟩:=ih _ h.2
  refine ⟨List.Pairwise.cons (h2 _ rfl) h1,?_⟩
  rintro q rfl y hy
  have hb : cmpL q (Y x.f0) < 0:=of_decide_eq_true h.1.2
  rcases List.mem_cons.1 hy with rfl|hy
  ·exact hb
  ·have h3:=h2 _ rfl y hy
   exact (cmpL_trans _ _ _ (by omega) (by omega)).2 (.inl hb)
theorem good_pw {l : List S56} (h : goodL l = true) : l.Pairwise (fun a b => Y a.f0 ≠ Y b.f0):=by
 unfold goodL at h
 rw [Bool.and_eq_true] at h
 refine (riseL_pw l none h.2).1.imp fun {a b} hab e => ?_
 rw [e,cmpL_self] at hab
 omega
def okJ (x : S56) : Prop:=x.f0.size ≤ 1000 ∧ x.f1.size ≤ 1000 ∧ x.f1.toList ≠ []
theorem cut_at (x : S56) : ∀ l : List S56,l.Pairwise (fun a b => cmpL (Y a.f0) (Y b.f0) < 0) → (∀ y ∈ l,Y y.f0 ≠ Y x.f0) → ∃ A B,l = A ++ B ∧ (∀ y ∈ A,cmpL (Y y.f0) (Y x.f0) < 0) ∧ (∀ y ∈ B,cmpL (Y x.f0) (Y y.f0) < 0):=by
 intro l
 induction l with
 | nil => intro _ _;exact ⟨[],[],rfl,(fun _ h => by cases h),(fun _ h => by cases h)⟩
 | cons y t ih =>
  intro hp hn
  obtain ⟨h1,h2⟩:=List.pairwise_cons.1 hp
  rcases cmpL_cases (Y x.f0) (Y y.f0) with c|c|c
  ·refine ⟨[],y :: t,rfl,(fun _ h => by cases h),fun z hz => ?_⟩
   rcases List.mem_cons.1 hz with rfl|hz
   ·omega
   ·have h5:=h1 z hz
    exact (cmpL_trans (Y x.f0) (Y y.f0) (Y z.f0) (by omega) (by omega)).2 (.inl (by omega))
  ·exact absurd (cmpL_eq _ _ c).symm (hn y (List.mem_cons_self ..))
  ·obtain ⟨A,B,e,hA,hB⟩:=ih h2 fun z hz => hn z (List.mem_cons_of_mem _ hz)
   refine ⟨y :: A,B,by rw [e];rfl,fun z hz => ?_,hB⟩
   rcases List.mem_cons.1 hz with rfl|hz
   ·have:=cmpL_neg (Y x.f0) (Y z.f0)
    omega
   ·exact hA z hz
theorem insr_app (x : S56) (Q : List S56) : ∀ P : List S56,(∀ y ∈ P,cmpL (Y x.f0) (Y y.f0) < 0) → insr x (P ++ Q) = P ++ insr x Q:=by
 intro P
 induction P with
 | nil => intro _;rfl
 | cons y t ih =>
  intro h
  rw [List.cons_append,List.cons_append,← ih fun z hz => h z (List.mem_cons_of_mem _ hz)]
  exact if_pos (h y (List.mem_cons_self ..))
theorem insr_stop (x : S56) : ∀ Q : List S56,(∀ y ∈ Q,¬ cmpL (Y x.f0) (Y y.f0) < 0) → insr x Q = x :: Q
 | [],_ => rfl
 | y :: _,h => if_neg (h y (List.mem_cons_self ..))
theorem insr_at (x : S56) (A B : List S56) (hA : ∀ y ∈ A,cmpL (Y y.f0) (Y x.f0) < 0) (hB : ∀ y ∈ B,cmpL (Y x.f0) (Y y.f0) < 0) : insr x (A ++ B).reverse = (A ++ x :: B).reverse:=by
 rw [List.reverse_append,insr_app x _ _ (fun y hy => hB y (List.mem_reverse.1 hy)),insr_stop x _ (fun y hy => by have h1:=hA y (List.mem_reverse.1 hy);have:=cmpL_neg (Y y.f0) (Y x.f0);omega)]
 simp
theorem withL_B (n v : ByteArray) : ∀ (B acc : List S56),(∀ y ∈ B,Y y.f0 ≠ Y n) → withL n v acc true B = acc ++ B:=by
 intro B
 induction B with
 | nil => intro acc _;simp [withL]
 | cons y t ih =>
  intro acc h
  have hy:=h y (List.mem_cons_self ..)
  simp only [withL]
  rw [if_neg (by simp),if_neg (by rw [Y_eq,Y_eq];exact hy),ih _ fun z hz => h z (List.mem_cons_of_mem _ hz),List.append_assoc]
  rfl
theorem withL_at (n v : ByteArray) (B : List S56) (hB : ∀ y ∈ B,cmpL (Y n) (Y y.f0) < 0) : ∀ (A acc : List S56),(∀ y ∈ A,cmpL (Y y.f0) (Y n) < 0) → withL n v acc false (A ++ B) = acc ++ (A ++ ⟨n,v⟩ :: B):=by
 intro A
 induction A with
 | nil =>
  intro acc _
  cases B with
  | nil => simp [withL]
  | cons b t =>
   have hb:=hB b (List.mem_cons_self ..)
   have hbn:=cmpL_neg (Y n) (Y b.f0)
   have hne : ∀ y ∈ b :: t,Y y.f0 ≠ Y n:=fun y hy e => by have:=hB y hy;rw [e,cmpL_self] at this;omega
   rw [List.nil_append]
   simp only [withL]
   rw [if_pos (by rw [Y_eq,Y_eq,less_cmp,decide_eq_false (by omega)];rfl),if_neg (by rw [Y_eq,Y_eq];exact hne b (List.mem_cons_self ..)),withL_B n v t _ fun z hz => hne z (List.mem_cons_of_mem _ hz)]
   simp
 | cons y t ih =>
  intro acc h
  have hy:=h y (List.mem_cons_self ..)
  rw [List.cons_append]
  simp only [withL]
  rw [if_neg (by rw [Y_eq,Y_eq,less_cmp,decide_eq_true hy];decide),if_neg (by rw [Y_eq,Y_eq];intro e;rw [e,cmpL_self] at hy;omega),ih _ fun z hz => h z (List.mem_cons_of_mem _ hz)]
  simp
theorem ofL_no (n : ByteArray) : ∀ l : List S56,(∀ y ∈ l,Y y.f0 ≠ Y n) → ofL n l = ⟨#[]⟩:=by
 intro l
 induction l with
 | nil => intro _;rfl
 | cons y t ih =>
  intro h
  unfold ofL
  rw [if_neg (h y (List.mem_cons_self ..))]
  exact ih fun z hz => h z (List.mem_cons_of_mem _ hz)
theorem ofL_yes (n : ByteArray) : ∀ l : List S56,(∃ y ∈ l,Y y.f0 = Y n) → (∀ y ∈ l,y.f1.toList ≠ []) → (ofL n l).toList ≠ []:=by
 intro l
 induction l with
 | nil => rintro ⟨y,hy,_⟩;cases hy
 | cons y t ih =>
  rintro ⟨z,hz,e⟩ h
  unfold ofL
  split
  ·exact h y (List.mem_cons_self ..)
  ·rename_i q
   rcases List.mem_cons.1 hz with rfl|hz
   ·exact absurd e q
   ·exact ih ⟨z,hz,e⟩ fun w hw => h w (List.mem_cons_of_mem _ hw)
theorem okJ_fit {l : List S56} (hl : l.length ≤ 1000) (h : ∀ x ∈ l,okJ x) : fitL l:=⟨by omega,fun x hx => by obtain ⟨h1,h2,_⟩:=h x hx;omega⟩
theorem l2_two (all : List S56) (hn : all.length ≤ 100) (hok : ∀ x ∈ all,okJ x) : ∀ (d i : Nat) (out : List S56),i + d = all.length → out.length ≤ i → out.Pairwise (fun a b => cmpL (Y a.f0) (Y b.f0) < 0) → (∀ y ∈ out,okJ y) →
  ∃ (v : List S56) (b : Bool),Ev (fun k => spec_l5Join.l2 k out all (all.length : Int) (i : Int)) (v,b) ∧ (b = true → v = (srtr out.reverse (all.drop i)).reverse ∧ goodL v = true) ∧ (b = false → goodL (srtr out.reverse (all.drop i)).reverse = false):=by
 have hrd : ∀ (i : Nat) (h : i < all.length),rd_T56 all (i : Int) = all[i]:=fun i h => getD_lt h
 intro d
 induction d with
 | zero =>
  intro i out h1 h2 h3 h4
  have e : (srtr out.reverse (all.drop i)).reverse = out:=by rw [List.drop_eq_nil_of_le (by omega)];exact List.reverse_reverse out
  rw [e]
  exact ⟨out,goodL out,ev_step (fun _ => spec_l5Join.l2.eq_2 ..) (ev_neg (by omega) (ev_bind (goodLabels_spec out (okJ_fit (by omega) h4)) (ev_now _))),fun h => ⟨rfl,h⟩,id⟩
 | succ d ih =>
  intro i out h1 h2 h3 h4
  have hi : i < all.length:=by omega
  have wi : wrap64 ((i : Int) + 1) = ((i + 1 : Nat) : Int):=w64n hi (by omega)
  obtain ⟨x0,x1,x2⟩:=hok all[i] (List.getElem_mem hi)
  rw [List.drop_eq_getElem_cons hi]
  have eo:=of_spec out (by omega) all[i].f0
  by_cases hx : ∃ y ∈ out,Y y.f0 = Y all[i].f0
  ·refine ⟨[],false,ev_step (fun _ => spec_l5Join.l2.eq_2 ..) (ev_pos (by omega) (ev_pos (by omega) (ev_pos (by omega) ?_))),(fun h => by cases h),fun _ => ?_⟩
   ·rw [hrd i hi]
    exact ev_bind eo (ev_neg (ofL_yes _ out hx fun y hy => (h4 y hy).2.2) (ev_now _))
   ·cases g : goodL (srtr out.reverse (all[i] :: all.drop (i + 1))).reverse with
    | false => rfl
    | true =>
     have p1:=good_pw g
     have p2 : (srtr out.reverse (all[i] :: all.drop (i + 1))).reverse.Perm ((all[i] :: all.drop (i + 1)) ++ out.reverse):=(List.reverse_perm _).trans (srtr_perm _ _)
     have p3:=(p2.pairwise_iff (fun {a b} h e => h e.symm)).1 p1
     obtain ⟨y,hy,e⟩:=hx
     exact absurd e.symm ((List.pairwise_cons.1 p3).1 y (List.mem_append_right _ (List.mem_reverse.2 hy)))
  ·have hx' : ∀ y ∈ out,Y y.f0 ≠ Y all[i].f0:=fun y hy e => hx ⟨y,hy,e⟩
   obtain ⟨A,B,eAB,hA,hB⟩:=cut_at all[i] out h3 hx'
   have ew : Ev (fun k => spec_l2With.f k out all[i].f0 all[i].f1) (withL all[i].f0 all[i].f1 [] (all[i].f1.toList == []) out):=with_spec out (okJ_fit (by omega) h4) (by omega) all[i].f0 all[i].f1 (by omega) (all[i].f1.toList == [])
   rw [show (all[i].f1.toList == []) = false from by simpa using x2] at ew
   have e2 : withL all[i].f0 all[i].f1 [] false out = A ++ all[i] :: B:=by rw [eAB,withL_at _ _ B hB A [] hA];rfl
   rw [e2] at ew
   have e3 : srtr out.reverse (all[i] :: all.drop (i + 1)) = srtr (A ++ all[i] :: B).reverse (all.drop (i + 1)):=by
    show srtr (insr all[i] out.reverse) _ = _
    rw [eAB,insr_at _ _ _ hA hB]
   rw [e3]
   have hp:=List.pairwise_append.1 (eAB ▸ h3)
   have hlen : (A ++ all[i] :: B).length = out.length + 1:=by rw [eAB];simp;omega
   obtain ⟨v,b,s1,s2,s3⟩:=ih (i + 1) (A ++ all[i] :: B) (by omega) (by omega) (List.pairwise_append.2 ⟨hp.1,List.Pairwise.cons hB hp.2.1,fun a ha b hb => by
    rcases List.mem_cons.1 hb with rfl|hb
    ·exact hA a ha
    ·exact hp.2.2 a ha b hb⟩) (fun y hy => by
    rcases List.mem_append.1 hy with hy|hy
    ·exact h4 y (by rw [eAB];exact List.mem_append_left _ hy)
    ·rcases List.mem_cons.1 hy with rfl|hy
     ·exact ⟨x0,x1,x2⟩
     ·exact h4 y (by rw [eAB];exact List.mem_append_right _ hy))
   refine ⟨v,b,ev_step (fun _ => spec_l5Join.l2.eq_2 ..) (ev_pos (by omega) (ev_pos (by omega) (ev_pos (by omega) ?_))),s2,s3⟩
   rw [hrd i hi,wi]
   exact ev_bind eo (ev_pos (by rw [ofL_no _ out hx',Y_eq]) (ev_bind ew s1))
def exJ (tl : List S56) (ho : Bool) (x : S56) : S56:=if (ofL x.f0 tl).toList = [] then x else if ho = true then x else ⟨(⟨#[101,120,112,111,114,116,101,100,95]⟩ : ByteArray) ++ x.f0,x.f1⟩
def kpJ (l : List S56) (ho : Bool) (x : S56) : Bool:=if (ofL x.f0 l).toList = [] then true else !ho
def allJ (tl : List S56) (ho : Bool) (l : List S56) : List S56:=l.map (exJ tl ho) ++ tl.filter (kpJ l ho)
section
variable (tl : List S56) (e li : Int) (ho : Bool) (rs : List S82) (l : List S56) (hl : l.length ≤ 100) (ht : tl.length ≤ 100) (hz : ∀ x ∈ l,x.f0.size ≤ 1000)
include hl ht hz
theorem join_i (R : List S56 × Bool) (hR : Ev (fun k => (impl_Label_61.f k (allJ tl ho l) 0).bind fun t => (impl_GoodLabels.f k t).bind fun g => some (t,g)) R) : Ev (fun k => impl_join.f k tl e li ho rs l) R:=by
 have hrd : ∀ (l : List S56) (i : Nat) (h : i < l.length),rd_T56 l (i : Int) = l[i]:=fun l i h => getD_lt h
 unfold impl_join.f
 have two:=up_ind tl.length (fun j => ∀ acc : List S56,acc.length ≤ 100 + j → acc ++ (tl.drop j).filter (kpJ l ho) = allJ tl ho l → Ev (fun k => impl_join.l1 k l acc tl (tl.length : Int) (j : Int) tl e li ho rs) R) ?_ ?_ 0 (by omega)
 ·have one:=up_ind l.length (fun i => ∀ acc : List S56,acc.length ≤ i → acc ++ (l.drop i).map (exJ tl ho) = l.map (exJ tl ho) → Ev (fun k => impl_join.l0 k l acc l (l.length : Int) (i : Int) tl e li ho rs) R) ?_ ?_ 0 (by omega) [] (by simp) (by simp)
  ·exact one
  ·intro acc ha he
   rw [List.drop_length,List.map_nil,List.append_nil] at he
   subst he
   exact ev_step (fun _ => impl_join.l0.eq_2 ..) (ev_neg (by omega) (two _ (by rw [List.length_map];omega) rfl))
  ·intro i hi ih acc ha he
   have wi : wrap64 ((i : Int) + 1) = ((i + 1 : Nat) : Int):=w64n hi (by omega)
   have hzi:=hz l[i] (List.getElem_mem hi)
   rw [List.drop_eq_getElem_cons hi,List.map_cons] at he
   have go : ∀ y,exJ tl ho l[i] = y → Ev (fun k => impl_join.l0 k l (acc ++ [y]) l (l.length : Int) ((i + 1 : Nat) : Int) tl e li ho rs) R:=fun y hy => ih _ (by rw [List.length_append,List.length_singleton];omega) (by rw [List.append_assoc,← hy];exact he)
   refine ev_step (fun _ => impl_join.l0.eq_2 ..) (ev_pos (by omega) (ev_pos (by omega) (ev_pos (by omega) ?_)))
   rw [hrd l i hi,wi]
   refine ev_bind (of_impl tl (by omega) _) (ev_ite (fun c => ?_) (fun c => ?_))
   ·exact ev_pos (by omega) (go l[i] (if_pos c))
   ·refine ev_ite (fun c2 => ?_) (fun c2 => ?_)
    ·exact ev_pos (by omega) (go l[i] ((if_neg c).trans (if_pos c2)))
    ·exact ev_pos (by omega) (ev_pos (by omega) (go _ ((if_neg c).trans (if_neg c2))))
 ·intro acc ha he
  rw [List.drop_length,List.filter_nil,List.append_nil] at he
  subst he
  exact ev_step (fun _ => impl_join.l1.eq_2 ..) (ev_neg (by omega) hR)
 ·intro j hj ih acc ha he
  have wi : wrap64 ((j : Int) + 1) = ((j + 1 : Nat) : Int):=w64n hj (by omega)
  rw [List.drop_eq_getElem_cons hj] at he
  refine ev_step (fun _ => impl_join.l1.eq_2 ..) (ev_pos (by omega) (ev_pos (by omega) (ev_pos (by omega) ?_)))
  rw [hrd tl j hj,wi]
  have yes : kpJ l ho tl[j] = true → Ev (fun k => impl_join.l1 k l (acc ++ [tl[j]]) tl (tl.length : Int) ((j + 1 : Nat) : Int) tl e li ho rs) R:=fun q => ih _ (by rw [List.length_append,List.length_singleton];omega) (by rw [List.filter_cons_of_pos q] at he;rw [List.append_assoc];exact he)
  refine ev_bind (of_impl l (by omega) _) (ev_ite (fun c => ?_) (fun c => ?_))
  ·exact ev_pos (by omega) (yes (if_pos c))
  ·refine ev_ite (fun c2 => ?_) (fun c2 => ?_)
   ·exact ih _ (by omega) (by rw [List.filter_cons_of_neg (by rw [show kpJ l ho tl[j] = !ho from if_neg c,c2];decide)] at he;exact he)
   ·exact ev_pos (by omega) (yes ((if_neg c).trans (by rw [Bool.eq_false_iff.2 c2];rfl)))
theorem join_s (R : List S56 × Bool) (hR : Ev (fun k => spec_l5Join.l2 k [] (allJ tl ho l) ((allJ tl ho l).length : Int) 0) R) : Ev (fun k => spec_l5Join.f k tl e li ho rs l) R:=by
 have hrd : ∀ (l : List S56) (i : Nat) (h : i < l.length),rd_T56 l (i : Int) = l[i]:=fun l i h => getD_lt h
 unfold spec_l5Join.f
 have two:=up_ind tl.length (fun j => ∀ acc : List S56,acc.length ≤ 100 + j → acc ++ (tl.drop j).filter (kpJ l ho) = allJ tl ho l → Ev (fun k => spec_l5Join.l1 k l acc tl (tl.length : Int) (j : Int) tl e li ho rs) R) ?_ ?_ 0 (by omega)
 ·have one:=up_ind l.length (fun i => ∀ acc : List S56,acc.length ≤ i → acc ++ (l.drop i).map (exJ tl ho) = l.map (exJ tl ho) → Ev (fun k => spec_l5Join.l0 k l acc l (l.length : Int) (i : Int) tl e li ho rs) R) ?_ ?_ 0 (by omega) [] (by simp) (by simp)
  ·exact one
  ·intro acc ha he
   rw [List.drop_length,List.map_nil,List.append_nil] at he
   subst he
   exact ev_step (fun _ => spec_l5Join.l0.eq_2 ..) (ev_neg (by omega) (two _ (by rw [List.length_map];omega) rfl))
  ·intro i hi ih acc ha he
   have wi : wrap64 ((i : Int) + 1) = ((i + 1 : Nat) : Int):=w64n hi (by omega)
   have hzi:=hz l[i] (List.getElem_mem hi)
   rw [List.drop_eq_getElem_cons hi,List.map_cons] at he
   have go : ∀ y,exJ tl ho l[i] = y → Ev (fun k => spec_l5Join.l0 k l (acc ++ [y]) l (l.length : Int) ((i + 1 : Nat) : Int) tl e li ho rs) R:=fun y hy => ih _ (by rw [List.length_append,List.length_singleton];omega) (by rw [List.append_assoc,← hy];exact he)
   refine ev_step (fun _ => spec_l5Join.l0.eq_2 ..) (ev_pos (by omega) (ev_pos (by omega) (ev_pos (by omega) ?_)))
   rw [hrd l i hi,wi]
   refine ev_bind (of_spec tl (by omega) _) (ev_ite (fun c => ?_) (fun c => ?_))
   ·exact ev_pos (by omega) (go l[i] (if_pos c))
   ·refine ev_ite (fun c2 => ?_) (fun c2 => ?_)
    ·exact ev_pos (by omega) (go l[i] ((if_neg c).trans (if_pos c2)))
    ·exact ev_pos (by omega) (ev_pos (by omega) (go _ ((if_neg c).trans (if_neg c2))))
 ·intro acc ha he
  rw [List.drop_length,List.filter_nil,List.append_nil] at he
  subst he
  exact ev_step (fun _ => spec_l5Join.l1.eq_2 ..) (ev_neg (by omega) hR)
 ·intro j hj ih acc ha he
  have wi : wrap64 ((j : Int) + 1) = ((j + 1 : Nat) : Int):=w64n hj (by omega)
  rw [List.drop_eq_getElem_cons hj] at he
  refine ev_step (fun _ => spec_l5Join.l1.eq_2 ..) (ev_pos (by omega) (ev_pos (by omega) (ev_pos (by omega) ?_)))
  rw [hrd tl j hj,wi]
  have yes : kpJ l ho tl[j] = true → Ev (fun k => spec_l5Join.l1 k l (acc ++ [tl[j]]) tl (tl.length : Int) ((j + 1 : Nat) : Int) tl e li ho rs) R:=fun q => ih _ (by rw [List.length_append,List.length_singleton];omega) (by rw [List.filter_cons_of_pos q] at he;rw [List.append_assoc];exact he)
  refine ev_bind (of_spec l (by omega) _) (ev_ite (fun c => ?_) (fun c => ?_))
  ·exact ev_pos (by omega) (yes (if_pos c))
  ·refine ev_ite (fun c2 => ?_) (fun c2 => ?_)
   ·exact ih _ (by omega) (by rw [List.filter_cons_of_neg (by rw [show kpJ l ho tl[j] = !ho from if_neg c,c2];decide)] at he;exact he)
   ·exact ev_pos (by omega) (yes ((if_neg c).trans (by rw [Bool.eq_false_iff.2 c2];rfl)))
end
theorem allJ_ok (tl : List S56) (ho : Bool) (l : List S56) (h1 : ∀ x ∈ l,x.f0.size ≤ 100 ∧ x.f1.size ≤ 100 ∧ x.f1.toList ≠ []) (h2 : ∀ x ∈ tl,x.f0.size ≤ 100 ∧ x.f1.size ≤ 100 ∧ x.f1.toList ≠ []) : ∀ x ∈ allJ tl ho l,okJ x:=by
 intro x hx
 rcases List.mem_append.1 hx with hx|hx
 ·obtain ⟨y,hy,rfl⟩:=List.mem_map.1 hx
  obtain ⟨g1,g2,g3⟩:=h1 y hy
  unfold exJ
  split
  ·exact ⟨by omega,by omega,g3⟩
  ·split
   ·exact ⟨by omega,by omega,g3⟩
   ·refine ⟨?_,by show y.f1.size ≤ 1000;omega,g3⟩
    rw [ByteArray.size_append]
    show 9 + _ ≤ _
    omega
 ·obtain ⟨g1,g2,g3⟩:=h2 x (List.mem_filter.1 hx).1
  exact ⟨by omega,by omega,g3⟩
theorem good_ok {l : List S56} (h : goodL l = true) : ∀ x ∈ l,x.f0.size ≤ 100 ∧ x.f1.size ≤ 100 ∧ x.f1.toList ≠ []:=by
 intro x hx
 obtain ⟨h1,h2⟩:=(goodL_all h).2 x hx
 refine ⟨by omega,h2,fun e => ?_⟩
 unfold goodL at h
 rw [Bool.and_eq_true] at h
 have:=(riseL_all l none h.2 x hx).2
 rw [Y_eq] at e
 rw [e] at this
 cases this
theorem join_two (tl : List S56) (e li : Int) (ho : Bool) (rs : List S82) (l : List S56) (ht : goodL tl = true) (hg : goodL l = true) : ∃ (v1 v2 : List S56) (b : Bool),Ev (fun k => impl_join.f k tl e li ho rs l) (v1,b) ∧ Ev (fun k => spec_l5Join.f k tl e li ho rs l) (v2,b) ∧ (b = true → v1 = v2 ∧ v1.length ≤ 20):=by
 have l1:=(goodL_all hg).1
 have l2:=(goodL_all ht).1
 have hok:=allJ_ok tl ho l (good_ok hg) (good_ok ht)
 have hlen : (allJ tl ho l).length ≤ 40:=by
  unfold allJ
  rw [List.length_append,List.length_map]
  have:=List.length_filter_le (kpJ l ho) tl
  omega
 have hz : ∀ x ∈ l,x.f0.size ≤ 1000:=fun x hx => by have:=(good_ok hg x hx).1;omega
 have ji:=join_i tl e li ho rs l (by omega) (by omega) hz
 have js:=join_s tl e li ho rs l (by omega) (by omega) hz
 generalize allJ tl ho l = all at hok hlen ji js
 obtain ⟨v,b,s1,s2,s3⟩:=l2_two all (by omega) hok all.length 0 [] (by omega) (by simp) List.Pairwise.nil (fun _ h => by cases h)
 rw [List.drop_zero,List.reverse_nil] at s2 s3
 have hp : (srtr [] all).reverse.Perm all:=(List.reverse_perm _).trans (by have:=srtr_perm all [];rwa [List.append_nil] at this)
 have es:=js _ s1
 by_cases c : all.length ≤ 20
 ·have ei:=ji _ (ev_bind (srt_few 0 all c) (ev_bind (goodLabels_impl _ (okJ_fit (by rw [hp.length_eq];omega) fun x hx => hok x (hp.mem_iff.1 hx))) (ev_now _)))
  cases b with
  | true =>
   obtain ⟨rfl,g⟩:=s2 rfl
   rw [g] at ei
   exact ⟨_,_,true,ei,es,fun _ => ⟨rfl,(goodL_all g).1⟩⟩
  | false =>
   rw [s3 rfl] at ei
   exact ⟨_,_,false,ei,es,fun h => by cases h⟩
 ·obtain ⟨ys,y1,y2⟩:=srt_any 0 all (by omega)
  have eg : Ev (fun k => impl_GoodLabels.f k ys) false:=by
   unfold impl_GoodLabels.f
   exact ev_pos (by omega) (ev_now _)
  have ei:=ji _ (ev_bind y2 (ev_bind eg (ev_now _)))
  cases b with
  | true =>
   obtain ⟨rfl,g⟩:=s2 rfl
   have:=(goodL_all g).1
   rw [hp.length_eq] at this
   exact absurd this c
  | false => exact ⟨_,_,false,ei,es,fun h => by cases h⟩
theorem joinl_two (tl : List S56) (e li : Int) (ho : Bool) (rs : List S82) (l : List S56) (ft : fitL tl) (fl : fitL l) (fr : fitRs rs) : ∃ (r : List S56) (b : Bool),r.length ≤ 1048576 ∧ Ev (fun k => impl_JoinLabels.f k tl e li ho rs l) (r,b) ∧ Ev (fun k => spec_JoinLabels.f k tl e li ho rs l) (r,b):=by
 have no1 : Ev (fun k => impl_JoinLabels.j0 k l true tl e li ho rs) ([],false):=ev_step (fun _ => impl_JoinLabels.j0.eq_2 ..) (ev_pos rfl (ev_now _))
 have no2 : Ev (fun k => spec_JoinLabels.j0 k l true tl e li ho rs) ([],false):=ev_step (fun _ => spec_JoinLabels.j0.eq_2 ..) (ev_pos rfl (ev_now _))
 have ti:=target_impl tl e li ho rs ft fr
 have ts:=target_spec tl e li ho rs ft fr
 unfold impl_JoinLabels.f spec_JoinLabels.f
 cases c : tgtB tl e li rs with
 | false =>
  rw [c] at ti ts
  exact ⟨[],false,by simp,ev_bind ti (ev_neg Bool.false_ne_true no1),ev_bind ts (ev_neg Bool.false_ne_true no2)⟩
 | true =>
  rw [c] at ti ts
  have gt : goodL tl = true:=by unfold tgtB at c;exact (Bool.and_eq_true_iff.1 c).1
  have gi:=goodLabels_impl l fl
  have gs:=goodLabels_spec l fl
  cases g : goodL l with
  | false =>
   rw [g] at gi gs
   exact ⟨[],false,by simp,ev_bind ti (ev_pos rfl (ev_bind gi no1)),ev_bind ts (ev_pos rfl (ev_bind gs no2))⟩
  | true =>
   rw [g] at gi gs
   obtain ⟨v1,v2,b,w1,w2,w3⟩:=join_two tl e li ho rs l gt g
   cases b with
   | false => exact ⟨[],false,by simp,ev_bind ti (ev_pos rfl (ev_bind gi (ev_step (fun _ => impl_JoinLabels.j0.eq_2 ..) (ev_neg (by decide) (ev_bind w1 (ev_neg Bool.false_ne_true (ev_now _))))))),ev_bind ts (ev_pos rfl (ev_bind gs (ev_step (fun _ => spec_JoinLabels.j0.eq_2 ..) (ev_neg (by decide) (ev_bind w2 (ev_neg Bool.false_ne_true (ev_now _)))))))⟩
   | true =>
    obtain ⟨rfl,gv⟩:=w3 rfl
    exact ⟨v1,true,by omega,ev_bind ti (ev_pos rfl (ev_bind gi (ev_step (fun _ => impl_JoinLabels.j0.eq_2 ..) (ev_neg (by decide) (ev_bind w1 (ev_pos rfl (ev_now _))))))),ev_bind ts (ev_pos rfl (ev_bind gs (ev_step (fun _ => spec_JoinLabels.j0.eq_2 ..) (ev_neg (by decide) (ev_bind w2 (ev_pos rfl (ev_now _)))))))⟩
end Go.Proofs.Ytfdbbpnmnogddaa.U
namespace Go.Proofs.Ytfdbbpnmnogddaa.U
open Go.RowKit Go.Proofs.Ytfdbbpnmnogddaa.Pr Go.Proofs.YtfdbbpnmnogddaaW.PrintWords Go.Proofs.YtfdbbpnmnogddaaW.PrintLast Go.Proofs.YtfdbbpnmnogddaaW.PrintMore
set_option linter.unusedVariables false
set_option linter.unusedSimpArgs false
theorem mark_strings (n : Nat) (hn : n ≤ 9000000000000000000) : ∀ (d i : Nat) (x : List ByteArray) (c : Int),x.length = n → i + d = n → 0 < c → c + d ≤ 9000000000000000000 → ∃ y,Ev (fun k => laws_markStringS.l0 k x c (i : Int)) (c + d,y):=by
 intro d
 induction d with
 | zero =>
  intro i x c hx hi h0 h1
  refine ⟨x,ev_step (fun _ => laws_markStringS.l0.eq_2 ..) (ev_neg (by omega) ?_)⟩
  rw [show c + ((0 : Nat) : Int) = c from by omega]
  exact ev_now _
 | succ d ih =>
  intro i x c hx hi h0 h1
  obtain ⟨s,es⟩:=markText c h0 (by omega)
  obtain ⟨y,e⟩:=ih (i + 1) (x.set i s) (c + 1) (by simp [hx]) (by omega) (by omega) (by omega)
  refine ⟨y,ev_step (fun _ => laws_markStringS.l0.eq_2 ..) (ev_pos (by omega) (ev_bind es (ev_pos (by omega) ?_)))⟩
  rw [w64 (x:=c + 1) (by omega) (by omega),w64n (show i < n from by omega) (by omega),Int.toNat_natCast,show c + ((d + 1 : Nat) : Int) = c + 1 + (d : Int) from by omega]
  exact e
theorem mark_labels (n : Nat) (hn : n ≤ 1048576) : ∀ (d i : Nat) (x : List S56) (c : Int),x.length = n → i + d = n → 0 < c → c + 2 * d ≤ 9000000000000000000 → ∃ y,Ev (fun k => laws_markLabelS.l0 k x c (i : Int)) (c + 2 * d,y):=by
 intro d
 induction d with
 | zero =>
  intro i x c hx hi h0 h1
  refine ⟨x,ev_step (fun _ => laws_markLabelS.l0.eq_2 ..) (ev_neg (by omega) ?_)⟩
  rw [show c + 2 * ((0 : Nat) : Int) = c from by omega]
  exact ev_now _
 | succ d ih =>
  intro i x c hx hi h0 h1
  obtain ⟨s,es⟩:=markText c h0 (by omega)
  obtain ⟨s2,es2⟩:=markText (c + 1) (by omega) (by omega)
  obtain ⟨y,e⟩:=ih (i + 1) ((x.set i ⟨s,(rd_T56 x (i : Int)).f1⟩).set i ⟨(rd_T56 (x.set i ⟨s,(rd_T56 x (i : Int)).f1⟩) (i : Int)).f0,s2⟩) (c + 2) (by simp [hx]) (by omega) (by omega) (by omega)
  refine ⟨y,ev_step (fun _ => laws_markLabelS.l0.eq_2 ..) (ev_pos (by omega) (ev_bind es (ev_pos (by omega) (ev_some ?_))))⟩
  rw [w64 (x:=c + 1) (by omega) (by omega),w64 (x:=c + 1 + 1) (by omega) (by omega),w64n (show i < n from by omega) (by omega),Int.toNat_natCast,show c + 2 * ((d + 1 : Nat) : Int) = c + 2 + 2 * (d : Int) from by omega,show c + 1 + 1 = c + 2 from by omega]
  exact ev_bind es2 e
end Go.Proofs.Ytfdbbpnmnogddaa.U
namespace Go.Proofs.Ytfdbbpnmnogddaa.U
open Go.RowKit Go.Proofs.Ytfdbbpnmnogddaa.Pr Go.Proofs.YtfdbbpnmnogddaaW.PrintWords Go.Proofs.YtfdbbpnmnogddaaW.PrintLast Go.Proofs.YtfdbbpnmnogddaaW.PrintMore
set_option linter.unusedVariables false
set_option linter.unusedSimpArgs false
theorem mark_rules (n : Nat) (hn : n ≤ 1048576) : ∀ (d i : Nat) (x : List S82) (c : Int),x.length = n → i + d = n → (∀ r ∈ x.drop i,r.f1.length ≤ 1048576) → 0 < c → c + 1048582 * d ≤ 9000000000000000000 → ∃ y c',Ev (fun k => laws_markRelabelS.l0 k x c (i : Int)) (c',y) ∧ c ≤ c' ∧ c' ≤ c + 1048582 * d:=by
 intro d
 induction d with
 | zero =>
  intro i x c hx hi hr h0 h1
  exact ⟨x,c,ev_step (fun _ => laws_markRelabelS.l0.eq_2 ..) (ev_neg (by omega) (ev_now _)),by omega,by omega⟩
 | succ d ih =>
  intro i x c hx hi hr h0 h1
  have hix : i < x.length:=by omega
  have hrd : rd_T82 x (i : Int) = x[i]:=getD_lt hix
  rw [List.drop_eq_getElem_cons hix] at hr
  have hf:=hr x[i] List.mem_cons_self
  have hr':=fun r h => hr r (List.mem_cons_of_mem _ h)
  obtain ⟨y1,e1⟩:=mark_strings x[i].f1.length (by omega) x[i].f1.length 0 x[i].f1 (c + 1) rfl (by omega) (by omega) (by omega)
  obtain ⟨m,hm⟩ : ∃ m : Int,m = c + 1 + (x[i].f1.length : Int):=⟨_,rfl⟩
  rw [← hm] at e1
  obtain ⟨t2,e2⟩:=markText m (by omega) (by omega)
  obtain ⟨t3,e3⟩:=markText (m + 1) (by omega) (by omega)
  obtain ⟨t4,e4⟩:=markText (m + 2) (by omega) (by omega)
  obtain ⟨t5,e5⟩:=markText (m + 3) (by omega) (by omega)
  obtain ⟨y,c',e,hc,hc2⟩:=ih (i + 1) (x.set i ⟨c,y1,t2,t3,t4,t5,m + 4⟩) (m + 5) (by simp [hx]) (by omega) (by rw [List.drop_set_of_lt (by omega)];exact hr') (by omega) (by omega)
  refine ⟨y,c',ev_step (fun _ => laws_markRelabelS.l0.eq_2 ..) (ev_pos (by omega) (ev_pos (by omega) ?_)),by omega,by omega⟩
  rw [hrd,w64 (x:=c + 1) (by omega) (by omega),w64n (show i < n from by omega) (by omega),Int.toNat_natCast]
  refine ev_bind (a:=(m,y1)) (by unfold laws_markStringS.f;exact e1) ?_
  dsimp only
  rw [w64 (x:=m + 1) (by omega) (by omega),show m + 1 + 1 = m + 2 from by omega,w64 (x:=m + 2) (by omega) (by omega),show m + 2 + 1 = m + 3 from by omega,w64 (x:=m + 3) (by omega) (by omega),show m + 3 + 1 = m + 4 from by omega,w64 (x:=m + 4) (by omega) (by omega),show m + 4 + 1 = m + 5 from by omega,w64 (x:=m + 5) (by omega) (by omega)]
  exact ev_bind e2 (ev_bind e3 (ev_bind e4 (ev_bind e5 e)))
end Go.Proofs.Ytfdbbpnmnogddaa.U
namespace Go.Proofs.Ytfdbbpnmnogddaa.U
open Go.RowKit Go.Proofs.Ytfdbbpnmnogddaa.Pr Go.Proofs.YtfdbbpnmnogddaaW.PrintWords Go.Proofs.YtfdbbpnmnogddaaW.PrintLast Go.Proofs.YtfdbbpnmnogddaaW.PrintMore
set_option linter.unusedVariables false
set_option linter.unusedSimpArgs false
theorem mark_target (l : List S56) (ev li : Int) (ho : Bool) (rs : List S82) (hl : l.length ≤ 1048576) (hr : rs.length ≤ 1048576) (hf : ∀ r ∈ rs,r.f1.length ≤ 1048576) : ∃ b,Ev (fun k => laws_markTarget.f k l ev li ho rs 1) b ∧ ¬ b.1 < 0 ∧ 0 < b.1 ∧ b.1 ≤ 1000000000000000:=by
 obtain ⟨y,e⟩:=mark_labels l.length hl l.length 0 l 1 rfl (by omega) (by omega) (by omega)
 obtain ⟨z,c,e2,h2,h3⟩:=mark_rules rs.length hr rs.length 0 rs (1 + 2 * (l.length : Int)) rfl (by omega) (by simpa using hf) (by omega) (by omega)
 refine ⟨(c,y,z),?_,by show ¬ c < 0;omega,by show 0 < c;omega,by show c ≤ 1000000000000000;omega⟩
 unfold laws_markTarget.f
 exact ev_bind (a:=(1 + 2 * (l.length : Int),y)) (by unfold laws_markLabelS.f;exact e) (ev_bind (a:=(c,z)) (by unfold laws_markRelabelS.f;exact e2) (ev_now _))
end Go.Proofs.Ytfdbbpnmnogddaa.U
