/- Plain lemmas over the printed functions, for the law FnExactRelabelAll; each theorem states its own conditions. -/
import Derived.Test.YtacaelfdmlegdaaGreatDoorPrx0
import Derived.Test.YtacaelfdmlegdaaGreatDoorPrxg074fai1
import Derived.Test.YtacaelfdmlegdaaGreatDoorPrxg074fal1
import Derived.Test.YtacaelfdmlegdaaGreatDoorPrxg074fas1
import Derived.Test.YtacaelfdmlegdaaGreatDoorPrxg4cbd6i1
import Derived.Test.YtacaelfdmlegdaaGreatDoorPrxg4cbd6i2
import Derived.Test.YtacaelfdmlegdaaGreatDoorPrxg4cbd6i3
import Derived.Test.YtacaelfdmlegdaaGreatDoorPrxg4cbd6l1
import Derived.Test.YtacaelfdmlegdaaGreatDoorPrxg4cbd6s1
import Derived.Test.YtacaelfdmlegdaaGreatDoorPrxg4cbd6s2
import Derived.Test.YtacaelfdmlegdaaGreatDoorPrxg4cbd6s3
namespace Go.Proofs.YtacaelfdmlegdaaGreatDoor.U
open Go.RowKit Go.Proofs.YtacaelfdmlegdaaGreatDoor.Pr Go.Proofs.YtacaelfdmlegdaaGreatDoorW.PrintWords Go.Proofs.YtacaelfdmlegdaaGreatDoorW.PrintLast Go.Proofs.YtacaelfdmlegdaaGreatDoorW.PrintMore
set_option linter.unusedVariables false
set_option linter.unusedSimpArgs false
theorem w64 {x : Int} (h0 : -9223372036854775808 ≤ x) (h1 : x ≤ 9223372036854775807) : wrap64 x = x:=by unfold wrap64;omega
theorem w64n {i n : Nat} (h : i < n) (hn : n ≤ 9223372036854775807) : wrap64 ((i : Int) + 1) = ((i + 1 : Nat) : Int):=by unfold wrap64;omega
theorem wu64 (n : Int) : IntKind.u64.wrap n = n % 18446744073709551616:=by simp [IntKind.wrap,IntKind.bits,IntKind.signed]
theorem bu64 (op : BinOp) (x y : Int) : 0 ≤ bits op .u64 x y ∧ bits op .u64 x y < 18446744073709551616:=by
 unfold bits
 simp only [wu64]
 omega
theorem ev_now {α : Type} (r : α) : Ev (fun _ => some r) r:=Ev.now r
theorem ev_eq {α : Type} {g : Option α} {r : α} (h : g = some r) : Ev (fun _ => g) r:=⟨0,fun _ _ => h⟩
theorem ev_pos {α : Type} {c : Prop} [Decidable c] {a b : Nat → Option α} {r : α} (h : c) (e : Ev a r) : Ev (fun k => if c then a k else b k) r:=by
 obtain ⟨K,e⟩:=e
 exact ⟨K,fun k hk => (if_pos h).trans (e k hk)⟩
theorem ev_neg {α : Type} {c : Prop} [Decidable c] {a b : Nat → Option α} {r : α} (h : ¬ c) (e : Ev b r) : Ev (fun k => if c then a k else b k) r:=by
 obtain ⟨K,e⟩:=e
 exact ⟨K,fun k hk => (if_neg h).trans (e k hk)⟩
theorem ev_ite {α : Type} {c : Prop} [Decidable c] {a b : Nat → Option α} {r : α} (h : c → Ev a r) (h' : ¬ c → Ev b r) : Ev (fun k => if c then a k else b k) r:=by
 by_cases hc : c
 ·exact ev_pos hc (h hc)
 ·exact ev_neg hc (h' hc)
theorem ev_bind {α β : Type} {g : Nat → Option α} {f : Nat → α → Option β} {a : α} {r : β} (h : Ev g a) (k : Ev (fun n => f n a) r) : Ev (fun n => (g n).bind (f n)) r:=Ev.bind h k
theorem ev_some {α β : Type} {f : Nat → α → Option β} {a : α} {r : β} (k : Ev (fun n => f n a) r) : Ev (fun n => (some a).bind (f n)) r:=Ev.bind (Ev.now a) k
theorem ev_step {α : Type} {g f : Nat → Option α} {r : α} (h : ∀ k,g (k + 1) = f k) (k : Ev f r) : Ev g r:=Ev.step h k
theorem ev_one {α : Type} {g : Nat → Option α} {r q : α} (h : Ev g r) (h' : Ev g q) : r = q:=by
 obtain ⟨K,h⟩:=h
 obtain ⟨K',h'⟩:=h'
 exact Option.some.inj ((h (max K K') (Nat.le_max_left _ _)).symm.trans (h' _ (Nat.le_max_right _ _)))
theorem up_ind (n : Nat) (Q : Nat → Prop) (done : Q n) (step : ∀ i,i < n → Q (i + 1) → Q i) : ∀ i,i ≤ n → Q i:=by
 have key : ∀ d i,i + d = n → Q i:=by
  intro d
  induction d with
  | zero =>
   intro i h
   have e : i = n:=by omega
   rw [e]
   exact done
  | succ d ih => intro i h;exact step i (by omega) (ih (i + 1) (by omega))
 exact fun i h => key (n - i) i (by omega)
theorem getD_lt {α : Type} {l : List α} {d : α} {i : Nat} (h : i < l.length) : l.getD ((i : Int).toNat) d = l[i]:=by
 rw [Int.toNat_natCast,List.getD_eq_getElem?_getD,List.getElem?_eq_getElem h]
 rfl
theorem rd_at {l : List Int} {i : Nat} (h : i < l.length) : rd l (i : Int) = l[i]:=getD_lt h
theorem rdOf_at {α : Type} {d : α} {l : List α} {i : Nat} (h : i < l.length) : rdOf d l (i : Int) = l[i]:=getD_lt h
theorem ev_copy {α β : Type} (F : Nat → List β → Int → Option (List β)) (cv : α → β) (l : List α) (x : List β) (hx : x.length = l.length)
  (step : ∀ (i : Nat) (h : i < l.length) (y r : List β),y.length = l.length → Ev (fun k => F k (y.set i (cv l[i])) ((i + 1 : Nat) : Int)) r → Ev (fun k => F k y (i : Int)) r)
  (done : ∀ y : List β,y.length = l.length → Ev (fun k => F k y (l.length : Int)) y) : Ev (fun k => F k x 0) (l.map cv):=by
 refine up_ind l.length (fun i => ∀ y : List β,y.length = l.length → (∀ j,j < i → y[j]? = (l.map cv)[j]?) → Ev (fun k => F k y (i : Int)) (l.map cv)) ?_ ?_ 0 (by omega) x hx (fun j hj => by omega)
 ·intro y hy h
  have e : y = l.map cv:=by
   apply List.ext_getElem?
   intro j
   by_cases hj : j < l.length
   ·exact h j hj
   ·rw [List.getElem?_eq_none (by omega),List.getElem?_eq_none (by simp;omega)]
  have d:=done y hy
  rw [e] at d ⊢
  exact d
 ·intro i hi ih y hy h
  refine step i hi y _ hy (ih _ (by simp [hy]) (fun j hj => ?_))
  by_cases e : j = i
  ·subst e
   rw [List.getElem?_set_self (by omega),List.getElem?_map,List.getElem?_eq_getElem hi]
   rfl
  ·rw [List.getElem?_set_ne (Ne.symm e)]
   exact h j (by omega)
end Go.Proofs.YtacaelfdmlegdaaGreatDoor.U
namespace Go.Proofs.YtacaelfdmlegdaaGreatDoor.U
open Go.RowKit Go.Proofs.YtacaelfdmlegdaaGreatDoor.Pr Go.Proofs.YtacaelfdmlegdaaGreatDoorW.PrintWords Go.Proofs.YtacaelfdmlegdaaGreatDoorW.PrintLast Go.Proofs.YtacaelfdmlegdaaGreatDoorW.PrintMore
set_option linter.unusedVariables false
set_option linter.unusedSimpArgs false
abbrev Y (s : ByteArray) : List UInt8:=s.data.toList
theorem Y_eq {s : ByteArray} : s.toList = Y s:=ByteArray.toList_eq s
theorem Y_len (s : ByteArray) : (Y s).length = s.size:=Array.length_toList
theorem Y_inj {s t : ByteArray} (h : Y s = Y t) : s = t:=by
 cases s
 cases t
 congr
 exact Array.toList_inj.1 h
theorem bt_at {s : ByteArray} {i : Nat} (h : i < s.size) : bt s (i : Int) = (((Y s)[i]'(by rw [Y_len];exact h)).toNat : Int):=by
 unfold bt
 rw [dif_pos (show ((i : Int)).toNat < s.size from by omega)]
 rfl
theorem Y_drop {s : ByteArray} {i : Nat} (h : i < s.size) : (Y s).drop i = (Y s)[i]'(by rw [Y_len];exact h) :: (Y s).drop (i + 1):=List.drop_eq_getElem_cons _
theorem Y_drop_end (s : ByteArray) : (Y s).drop s.size = []:=by rw [← Y_len,List.drop_length]
def digC (c : UInt8) : Bool:=decide (48 ≤ (c.toNat : Int)) && decide ((c.toNat : Int) ≤ 57)
def letC (c : UInt8) : Bool:=decide (97 ≤ (c.toNat : Int)) && decide ((c.toNat : Int) ≤ 122) || decide (65 ≤ (c.toNat : Int)) && decide ((c.toNat : Int) ≤ 90)
def wordC (c : UInt8) : Bool:=letC c || digC c || decide ((c.toNat : Int) = 95)
def prC (c : UInt8) : Bool:=decide (32 ≤ (c.toNat : Int)) && decide ((c.toNat : Int) ≤ 126)
def nameL (l : List UInt8) : Bool:=decide (1 ≤ l.length) && decide (l.length ≤ 40) && !(l.head?.any digC) && l.all wordC
def prL (n : Nat) (l : List UInt8) : Bool:=decide (l.length ≤ n) && l.all prC
def valL (l : List UInt8) : Bool:=decide (1 ≤ l.length) && prL 100 l
def cmpL : List UInt8 → List UInt8 → Int
 | [],[] => 0
 | [],_ :: _ => -1
 | _ :: _,[] => 1
 | a :: l,b :: m => if (a.toNat : Int) = (b.toNat : Int) then cmpL l m else if (a.toNat : Int) < (b.toNat : Int) then -1 else 1
end Go.Proofs.YtacaelfdmlegdaaGreatDoor.U
namespace Go.Proofs.YtacaelfdmlegdaaGreatDoor.U
open Go.RowKit Go.Proofs.YtacaelfdmlegdaaGreatDoor.Pr Go.Proofs.YtacaelfdmlegdaaGreatDoorW.PrintWords Go.Proofs.YtacaelfdmlegdaaGreatDoorW.PrintLast Go.Proofs.YtacaelfdmlegdaaGreatDoorW.PrintMore
set_option linter.unusedVariables false
set_option linter.unusedSimpArgs false
theorem printed_spec (s : ByteArray) (hs : s.size ≤ 9223372036854775807) : Ev (fun k => spec_l2Printed.f k s) ((Y s).all prC):=by
 refine up_ind s.size (fun i => Ev (fun k => spec_l2Printed.l0 k s (i : Int)) (((Y s).drop i).all prC)) ?_ ?_ 0 (by omega)
 ·rw [Y_drop_end]
  exact ev_step (fun _ => spec_l2Printed.l0.eq_2 ..) (ev_neg (by omega) (ev_now _))
 ·intro i h ih
  refine ev_step (fun _ => spec_l2Printed.l0.eq_2 ..) (ev_pos (by omega) (ev_pos (by omega) ?_))
  rw [bt_at h,Y_drop h,List.all_cons,w64n h hs]
  unfold prC
  refine ev_ite (fun h1 => ?_) (fun h1 => ev_ite (fun h2 => ?_) (fun h2 => ?_))
  ·rw [decide_eq_false (by omega)]
   exact ev_now _
  ·rw [decide_eq_false (show ¬ _ ≤ (126 : Int) from by omega),Bool.and_false,Bool.false_and]
   exact ev_now _
  ·rw [decide_eq_true (by omega),decide_eq_true (by omega)]
   exact ih
theorem printed_impl (s : ByteArray) (hs : s.size ≤ 9223372036854775807) (n : Nat) : Ev (fun k => impl_printed.f k s (n : Int)) (prL n (Y s)):=by
 unfold impl_printed.f prL
 rw [Y_len]
 refine ev_ite (fun h => ?_) (fun h => ?_)
 ·rw [decide_eq_false (by omega)]
  exact ev_now _
 ·rw [decide_eq_true (by omega),Bool.true_and]
  refine up_ind s.size (fun i => Ev (fun k => impl_printed.l0 k s (s.size : Int) (i : Int)) (((Y s).drop i).all prC)) ?_ ?_ 0 (by omega)
  ·rw [Y_drop_end]
   exact ev_step (fun _ => impl_printed.l0.eq_2 ..) (ev_neg (by omega) (ev_now _))
  ·intro i h ih
   refine ev_step (fun _ => impl_printed.l0.eq_2 ..) (ev_pos (by omega) (ev_pos (by omega) (ev_pos (by omega) ?_)))
   rw [bt_at h,Y_drop h,List.all_cons,w64n h hs]
   unfold prC
   refine ev_ite (fun h1 => ?_) (fun h1 => ev_ite (fun h2 => ?_) (fun h2 => ?_))
   ·rw [decide_eq_false (by omega)]
    exact ev_now _
   ·rw [decide_eq_false (show ¬ _ ≤ (126 : Int) from by omega),Bool.and_false,Bool.false_and]
    exact ev_now _
   ·rw [decide_eq_true (by omega),decide_eq_true (by omega)]
    exact ih
end Go.Proofs.YtacaelfdmlegdaaGreatDoor.U
namespace Go.Proofs.YtacaelfdmlegdaaGreatDoor.U
open Go.RowKit Go.Proofs.YtacaelfdmlegdaaGreatDoor.Pr Go.Proofs.YtacaelfdmlegdaaGreatDoorW.PrintWords Go.Proofs.YtacaelfdmlegdaaGreatDoorW.PrintLast Go.Proofs.YtacaelfdmlegdaaGreatDoorW.PrintMore
set_option linter.unusedVariables false
set_option linter.unusedSimpArgs false
theorem digit_impl (c : UInt8) : impl_digitByte.f (c.toNat : Int) = some (digC c):=by
 unfold impl_digitByte.f digC
 by_cases h : (c.toNat : Int) ≥ 48
 ·rw [if_pos h,decide_eq_true (show 48 ≤ (c.toNat : Int) from h),Bool.true_and]
 ·rw [if_neg h,decide_eq_false (show ¬ 48 ≤ (c.toNat : Int) from h),Bool.false_and]
theorem digit_spec (c : UInt8) : spec_l2Digit.f (c.toNat : Int) = some (digC c):=by
 unfold spec_l2Digit.f digC
 by_cases h : (c.toNat : Int) ≥ 48
 ·rw [if_pos h,decide_eq_true (show 48 ≤ (c.toNat : Int) from h),Bool.true_and]
 ·rw [if_neg h,decide_eq_false (show ¬ 48 ≤ (c.toNat : Int) from h),Bool.false_and]
theorem letter_impl (c : UInt8) : impl_letterByte.f (c.toNat : Int) = some (letC c):=by
 unfold impl_letterByte.f letC
 by_cases h : (c.toNat : Int) ≥ 97 <;> by_cases h1 : (c.toNat : Int) ≤ 122 <;> by_cases h2 : (c.toNat : Int) ≥ 65 <;> by_cases h3 : (c.toNat : Int) ≤ 90 <;> simp [h,h1,h2,h3] <;> omega
theorem letter_spec (c : UInt8) : spec_l2Letter.f (c.toNat : Int) = some (letC c):=by
 unfold spec_l2Letter.f letC
 by_cases h : (c.toNat : Int) ≥ 97 <;> by_cases h1 : (c.toNat : Int) ≤ 122 <;> by_cases h2 : (c.toNat : Int) ≥ 65 <;> by_cases h3 : (c.toNat : Int) ≤ 90 <;> simp [h,h1,h2,h3] <;> omega
theorem word_impl (c : UInt8) : impl_wordByte.f (c.toNat : Int) = some (wordC c):=by
 unfold impl_wordByte.f wordC
 rw [letter_impl,digit_impl]
 cases letC c <;> cases digC c <;> simp <;> rfl
theorem name_loop_impl (s : ByteArray) (hs : s.size ≤ 9223372036854775807) : Ev (fun k => impl_isName.l0 k s (s.size : Int) 0) ((Y s).all wordC):=by
 refine up_ind s.size (fun i => Ev (fun k => impl_isName.l0 k s (s.size : Int) (i : Int)) (((Y s).drop i).all wordC)) ?_ ?_ 0 (by omega)
 ·rw [Y_drop_end]
  exact ev_step (fun _ => impl_isName.l0.eq_2 ..) (ev_neg (by omega) (ev_now _))
 ·intro i h ih
  refine ev_step (fun _ => impl_isName.l0.eq_2 ..) (ev_pos (by omega) (ev_pos (by omega) (ev_pos (by omega) ?_)))
  rw [bt_at h,Y_drop h,List.all_cons,w64n h hs]
  refine ev_bind (ev_eq (word_impl _)) (ev_ite (fun h1 => ?_) (fun h1 => ?_))
  ·rw [h1]
   exact ih
  ·rw [Bool.eq_false_iff.2 h1]
   exact ev_now _
theorem name_loop_spec (s : ByteArray) (hs : s.size ≤ 9223372036854775807) : Ev (fun k => spec_l2Name.l0 k s 0) ((Y s).all wordC):=by
 refine up_ind s.size (fun i => Ev (fun k => spec_l2Name.l0 k s (i : Int)) (((Y s).drop i).all wordC)) ?_ ?_ 0 (by omega)
 ·rw [Y_drop_end]
  exact ev_step (fun _ => spec_l2Name.l0.eq_2 ..) (ev_neg (by omega) (ev_now _))
 ·intro i h ih
  refine ev_step (fun _ => spec_l2Name.l0.eq_2 ..) (ev_pos (by omega) (ev_pos (by omega) ?_))
  rw [bt_at h,Y_drop h,List.all_cons,w64n h hs]
  unfold wordC
  refine ev_bind (ev_eq (letter_spec _)) (ev_ite (fun h1 => ?_) (fun h1 => ev_bind (ev_eq (digit_spec _)) (ev_ite (fun h2 => ?_) (fun h2 => ev_ite (fun h3 => ?_) (fun h3 => ?_)))))
  ·rw [h1]
   exact ih
  ·rw [h2,Bool.or_true]
   exact ih
  ·rw [decide_eq_true h3,Bool.or_true]
   exact ih
  ·rw [Bool.eq_false_iff.2 h1,Bool.eq_false_iff.2 h2,decide_eq_false h3]
   exact ev_now _
theorem name_impl (s : ByteArray) (hs : s.size ≤ 9223372036854775807) : Ev (fun k => impl_isName.f k s) (nameL (Y s)):=by
 unfold impl_isName.f nameL
 rw [Y_eq]
 refine ev_ite (fun h => ?_) (fun h => ?_)
 ·rw [h]
  exact ev_step (fun _ => impl_isName.j0.eq_2 ..) (ev_pos rfl (ev_now _))
 ·have hl : 1 ≤ (Y s).length:=by
   cases e : Y s with
   | nil => exact absurd e h
   | cons a l => simp
  rw [decide_eq_true hl,Y_len,Bool.true_and]
  rw [Y_len] at hl
  refine ev_ite (fun h1 => ?_) (fun h1 => ev_pos (by omega) ?_)
  ·rw [decide_eq_false (by omega)]
   exact ev_step (fun _ => impl_isName.j0.eq_2 ..) (ev_pos rfl (ev_now _))
  ·rw [decide_eq_true (by omega),Bool.true_and]
   have e0:=bt_at (s:=s) (i:=0) (by omega)
   have eh : (Y s).head? = some ((Y s)[0]'(by rw [Y_len];omega)):=by rw [List.head?_eq_getElem?,List.getElem?_eq_getElem]
   rw [show bt s 0 = bt s ((0 : Nat) : Int) from rfl,e0,eh]
   refine ev_bind (ev_eq (digit_impl _)) (ev_step (fun _ => impl_isName.j0.eq_2 ..) (ev_ite (fun h2 => ?_) (fun h2 => ?_)))
   ·rw [Option.any_some,h2]
    exact ev_now _
   ·rw [Option.any_some,Bool.eq_false_iff.2 h2]
    exact name_loop_impl s hs
theorem name_spec (s : ByteArray) (hs : s.size ≤ 9223372036854775807) : Ev (fun k => spec_l2Name.f k s) (nameL (Y s)):=by
 unfold spec_l2Name.f nameL
 rw [Y_len]
 refine ev_ite (fun h => ?_) (fun h => ?_)
 ·rw [decide_eq_false (by omega)]
  exact ev_step (fun _ => spec_l2Name.j0.eq_2 ..) (ev_pos rfl (ev_now _))
 ·rw [decide_eq_true (by omega),Bool.true_and]
  refine ev_ite (fun h1 => ?_) (fun h1 => ev_pos (by omega) ?_)
  ·rw [decide_eq_false (by omega)]
   exact ev_step (fun _ => spec_l2Name.j0.eq_2 ..) (ev_pos rfl (ev_now _))
  ·rw [decide_eq_true (by omega),Bool.true_and]
   have e0:=bt_at (s:=s) (i:=0) (by omega)
   have eh : (Y s).head? = some ((Y s)[0]'(by rw [Y_len];omega)):=by rw [List.head?_eq_getElem?,List.getElem?_eq_getElem]
   rw [show bt s 0 = bt s ((0 : Nat) : Int) from rfl,e0,eh]
   refine ev_bind (ev_eq (digit_spec _)) (ev_step (fun _ => spec_l2Name.j0.eq_2 ..) (ev_ite (fun h2 => ?_) (fun h2 => ?_)))
   ·rw [Option.any_some,h2]
    exact ev_now _
   ·rw [Option.any_some,Bool.eq_false_iff.2 h2]
    exact name_loop_spec s hs
end Go.Proofs.YtacaelfdmlegdaaGreatDoor.U
namespace Go.Proofs.YtacaelfdmlegdaaGreatDoor.U
open Go.RowKit Go.Proofs.YtacaelfdmlegdaaGreatDoor.Pr Go.Proofs.YtacaelfdmlegdaaGreatDoorW.PrintWords Go.Proofs.YtacaelfdmlegdaaGreatDoorW.PrintLast Go.Proofs.YtacaelfdmlegdaaGreatDoorW.PrintMore
set_option linter.unusedVariables false
set_option linter.unusedSimpArgs false
def cn (a b : Int) : Int:=if a < b then -1 else if a > b then 1 else 0
theorem cmpNum_spec (a b : Int) : spec_l2CmpNum.f a b = some (cn a b):=by
 unfold spec_l2CmpNum.f cn
 by_cases h : a < b
 ·rw [if_pos h,if_pos h]
 ·rw [if_neg h,if_neg h]
  by_cases h' : a > b
  ·rw [if_pos h',if_pos h']
  ·rw [if_neg h',if_neg h']
theorem less_cmp : ∀ a b : List UInt8,Op.bytesLess a b = decide (cmpL a b < 0)
 | [],[] => rfl
 | [],_ :: _ => rfl
 | _ :: _,[] => rfl
 | a :: l,b :: m => by
  unfold Op.bytesLess cmpL
  rw [less_cmp l m]
  by_cases e : (a.toNat : Int) = (b.toNat : Int)
  ·have : a = b:=UInt8.toNat_inj.1 (by omega)
   subst this
   simp
  ·have hne : (a == b) = false:=by
    rw [beq_eq_false_iff_ne]
    rintro rfl
    exact e rfl
   rw [if_neg e,hne,Bool.false_and,Bool.or_false]
   by_cases h : (a.toNat : Int) < (b.toNat : Int)
   ·rw [if_pos h]
    have : a < b:=UInt8.lt_iff_toNat_lt.2 (by omega)
    simp [this]
   ·rw [if_neg h]
    have : ¬ a < b:=fun h' => h (by have:=UInt8.lt_iff_toNat_lt.1 h';omega)
    simp [this]
theorem cmp_spec (s t : ByteArray) (hs : s.size ≤ 9223372036854775807) (ht : t.size ≤ 9223372036854775807) : Ev (fun k => spec_l2CmpText.f k s t) (cmpL (Y s) (Y t)):=by
 refine up_ind (min s.size t.size) (fun i => Ev (fun k => spec_l2CmpText.l0 k s t (i : Int)) (cmpL ((Y s).drop i) ((Y t).drop i))) ?_ ?_ 0 (by omega)
 ·generalize hm : min s.size t.size = m
  rcases Nat.lt_or_ge m s.size with h|h
  ·have e : m = t.size:=by omega
   refine ev_step (fun _ => spec_l2CmpText.l0.eq_2 ..) (ev_pos (by omega) ?_)
   rw [decide_eq_false (by omega)]
   refine ev_step (fun _ => spec_l2CmpText.j1.eq_2 ..) (ev_neg (by decide) (ev_bind (ev_eq (cmpNum_spec _ _)) ?_))
   rw [Y_drop h,show List.drop m (Y t) = [] from by rw [e,Y_drop_end]]
   unfold cn cmpL
   rw [if_neg (by omega),if_pos (by omega)]
   exact ev_now _
  ·have e : m = s.size:=by omega
   refine ev_step (fun _ => spec_l2CmpText.l0.eq_2 ..) (ev_neg (by omega) ?_)
   refine ev_step (fun _ => spec_l2CmpText.j1.eq_2 ..) (ev_neg (by decide) (ev_bind (ev_eq (cmpNum_spec _ _)) ?_))
   rw [e,Y_drop_end]
   by_cases h2 : s.size < t.size
   ·rw [Y_drop h2]
    unfold cn cmpL
    rw [if_pos (by omega)]
    exact ev_now _
   ·have e2 : s.size = t.size:=by omega
    rw [e2,Y_drop_end]
    unfold cn cmpL
    rw [if_neg (by omega),if_neg (by omega)]
    exact ev_now _
 ·intro i h ih
  have h1 : i < s.size:=by omega
  have h2 : i < t.size:=by omega
  refine ev_step (fun _ => spec_l2CmpText.l0.eq_2 ..) (ev_pos (by omega) ?_)
  rw [decide_eq_true (by omega)]
  refine ev_step (fun _ => spec_l2CmpText.j1.eq_2 ..) (ev_pos rfl (ev_pos (by omega) (ev_pos (by omega) (ev_pos (by omega) ?_))))
  rw [bt_at h1,bt_at h2,Y_drop h1,Y_drop h2,w64n h1 hs]
  have a1:=((Y s)[i]'(by rw [Y_len];exact h1)).toNat_lt
  have a2:=((Y t)[i]'(by rw [Y_len];exact h2)).toNat_lt
  rw [w64 (x:=(((Y s)[i]'(by rw [Y_len];exact h1)).toNat : Int)) (by omega) (by omega),w64 (x:=(((Y t)[i]'(by rw [Y_len];exact h2)).toNat : Int)) (by omega) (by omega)]
  unfold cmpL
  refine ev_ite (fun h3 => ?_) (fun h3 => ?_)
  ·rw [if_pos h3]
   exact ih
  ·rw [if_neg h3]
   refine ev_bind (ev_eq (cmpNum_spec _ _)) ?_
   unfold cn
   by_cases h4 : (((Y s)[i]'(by rw [Y_len];exact h1)).toNat : Int) < (((Y t)[i]'(by rw [Y_len];exact h2)).toNat : Int)
   ·rw [if_pos h4,if_pos h4]
    exact ev_now _
   ·rw [if_neg h4,if_neg h4,if_pos (by omega)]
    exact ev_now _
end Go.Proofs.YtacaelfdmlegdaaGreatDoor.U
namespace Go.Proofs.YtacaelfdmlegdaaGreatDoor.U
open Go.RowKit Go.Proofs.YtacaelfdmlegdaaGreatDoor.Pr Go.Proofs.YtacaelfdmlegdaaGreatDoorW.PrintWords Go.Proofs.YtacaelfdmlegdaaGreatDoorW.PrintLast Go.Proofs.YtacaelfdmlegdaaGreatDoorW.PrintMore
set_option linter.unusedVariables false
set_option linter.unusedSimpArgs false
theorem value_spec (s : ByteArray) (hs : s.size ≤ 9223372036854775807) : Ev (fun k => spec_l2Value.f k s) (valL (Y s)):=by
 unfold spec_l2Value.f valL prL
 rw [Y_len]
 refine ev_ite (fun h => ev_ite (fun h1 => ?_) (fun h1 => ?_)) (fun h => ?_)
 ·rw [decide_eq_true (by omega),decide_eq_true (by omega),Bool.true_and,Bool.true_and]
  exact ev_bind (printed_spec s hs) (ev_now _)
 ·rw [decide_eq_false (show ¬ s.size ≤ 100 from by omega),Bool.false_and,Bool.and_false]
  exact ev_now _
 ·rw [decide_eq_false (by omega),Bool.false_and]
  exact ev_now _
theorem value_impl (s : ByteArray) (hs : s.size ≤ 9223372036854775807) : Ev (fun k => impl_isValue.f k s) (valL (Y s)):=by
 unfold impl_isValue.f valL
 rw [Y_eq,]
 refine ev_ite (fun h => ?_) (fun h => ?_)
 ·rw [h]
  exact ev_now _
 ·have : 1 ≤ (Y s).length:=by
   cases e : Y s with
   | nil => exact absurd e h
   | cons a l => simp
  rw [decide_eq_true this,Bool.true_and]
  exact ev_bind (printed_impl s hs 100) (ev_now _)
end Go.Proofs.YtacaelfdmlegdaaGreatDoor.U
namespace Go.Proofs.YtacaelfdmlegdaaGreatDoor.U
open Go.RowKit Go.Proofs.YtacaelfdmlegdaaGreatDoor.Pr Go.Proofs.YtacaelfdmlegdaaGreatDoorW.PrintWords Go.Proofs.YtacaelfdmlegdaaGreatDoorW.PrintLast Go.Proofs.YtacaelfdmlegdaaGreatDoorW.PrintMore
set_option linter.unusedVariables false
set_option linter.unusedSimpArgs false
def before (p : Option (List UInt8)) (l : List UInt8) : Bool:=match p with
 | none => true
 | some q => decide (cmpL q l < 0)
def riseL (p : Option (List UInt8)) : List S53 → Bool
 | [] => true
 | x :: xs => nameL (Y x.f0) && valL (Y x.f1) && before p (Y x.f0) && riseL (some (Y x.f0)) xs
def goodL (l : List S53) : Bool:=decide (l.length ≤ 20) && riseL none l
def ptL (l : List S53) (i : Nat) : Option (List UInt8):=if i = 0 then none else some (Y (rd_T53 l ((i - 1 : Nat) : Int)).f0)
def fitL (l : List S53) : Prop:=l.length ≤ 9223372036854775807 ∧ ∀ x ∈ l,x.f0.size ≤ 9223372036854775807 ∧ x.f1.size ≤ 9223372036854775807
theorem goodLabels_impl_l (l : List S53) (hf : fitL l) : Ev (fun k => impl_GoodLabels.l0 k l l (l.length : Int) 0) (riseL none l):=by
 obtain ⟨hl,hw⟩:=hf
 have hrd : ∀ (i : Nat) (h : i < l.length),rd_T53 l (i : Int) = l[i]:=fun i h => getD_lt h
 refine up_ind l.length (fun i => Ev (fun k => impl_GoodLabels.l0 k l l (l.length : Int) (i : Int)) (riseL (ptL l i) (l.drop i))) ?_ ?_ 0 (by omega)
 ·rw [List.drop_length]
  exact ev_step (fun _ => impl_GoodLabels.l0.eq_2 ..) (ev_neg (by omega) (ev_now _))
 ·intro i h ih
  have hp : ptL l (i + 1) = some (Y l[i].f0):=by unfold ptL;rw [if_neg (by omega),Nat.add_sub_cancel,hrd i h]
  rw [hp] at ih
  obtain ⟨w1,w2⟩:=hw l[i] (List.getElem_mem h)
  have wi : wrap64 ((i : Int) + 1) = ((i + 1 : Nat) : Int):=w64n h hl
  refine ev_step (fun _ => impl_GoodLabels.l0.eq_2 ..) (ev_pos (by omega) (ev_pos (by omega) (ev_pos (by omega) ?_)))
  rw [hrd i h,List.drop_eq_getElem_cons h]
  simp only [riseL]
  refine ev_bind (name_impl _ w1) (ev_ite (fun h1 => ev_bind (value_impl _ w2) (ev_ite (fun h2 => ?_) (fun h2 => ?_))) (fun h1 => ?_))
  ·rw [h1,h2,Bool.true_and,Bool.true_and]
   by_cases hi : i = 0
   ·subst hi
    rw [wi]
    exact ev_neg (by omega) ih
   ·have wm : wrap64 ((i : Int) - 1) = ((i - 1 : Nat) : Int):=by rw [w64 (by omega) (by omega)];omega
    have hq : ptL l i = some (Y l[i - 1].f0):=by unfold ptL;rw [if_neg hi,hrd (i - 1) (by omega)]
    obtain ⟨w3,_⟩:=hw l[i - 1] (List.getElem_mem (by omega))
    rw [wm,hrd (i - 1) (by omega),hq,wi]
    refine ev_pos (by omega) (ev_pos (by omega) (ev_pos (by omega) ?_))
    simp only [before]
    rw [Y_eq,Y_eq,less_cmp]
    refine ev_ite (fun h3 => ?_) (fun h3 => ?_)
    ·rw [h3,Bool.true_and]
     exact ih
    ·rw [Bool.eq_false_iff.2 h3,Bool.false_and]
     exact ev_now _
  ·rw [h1,Bool.eq_false_iff.2 h2]
   exact ev_now _
  ·rw [Bool.eq_false_iff.2 h1]
   exact ev_now _
theorem goodLabels_impl (l : List S53) (hf : fitL l) : Ev (fun k => impl_GoodLabels.f k l) (goodL l):=by
 unfold impl_GoodLabels.f goodL
 refine ev_ite (fun h => ?_) (fun h => ?_)
 ·rw [decide_eq_false (by omega)]
  exact ev_now _
 ·rw [decide_eq_true (by omega),Bool.true_and]
  exact goodLabels_impl_l l hf
theorem goodLabels_spec_l (l : List S53) (hf : fitL l) : Ev (fun k => spec_GoodLabels.l0 k l l (l.length : Int) 0) (riseL none l):=by
 obtain ⟨hl,hw⟩:=hf
 have hrd : ∀ (i : Nat) (h : i < l.length),rd_T53 l (i : Int) = l[i]:=fun i h => getD_lt h
 refine up_ind l.length (fun i => Ev (fun k => spec_GoodLabels.l0 k l l (l.length : Int) (i : Int)) (riseL (ptL l i) (l.drop i))) ?_ ?_ 0 (by omega)
 ·rw [List.drop_length]
  exact ev_step (fun _ => spec_GoodLabels.l0.eq_2 ..) (ev_neg (by omega) (ev_now _))
 ·intro i h ih
  have hp : ptL l (i + 1) = some (Y l[i].f0):=by unfold ptL;rw [if_neg (by omega),Nat.add_sub_cancel,hrd i h]
  rw [hp] at ih
  obtain ⟨w1,w2⟩:=hw l[i] (List.getElem_mem h)
  have wi : wrap64 ((i : Int) + 1) = ((i + 1 : Nat) : Int):=w64n h hl
  refine ev_step (fun _ => spec_GoodLabels.l0.eq_2 ..) (ev_pos (by omega) (ev_pos (by omega) (ev_pos (by omega) ?_)))
  rw [hrd i h,List.drop_eq_getElem_cons h]
  simp only [riseL]
  refine ev_bind (name_spec _ w1) (ev_ite (fun h1 => ev_bind (value_spec _ w2) (ev_ite (fun h2 => ?_) (fun h2 => ?_))) (fun h1 => ?_))
  ·rw [h1,h2,Bool.true_and,Bool.true_and]
   by_cases hi : i = 0
   ·subst hi
    rw [wi]
    exact ev_neg (by omega) ih
   ·have wm : wrap64 ((i : Int) - 1) = ((i - 1 : Nat) : Int):=by rw [w64 (by omega) (by omega)];omega
    have hq : ptL l i = some (Y l[i - 1].f0):=by unfold ptL;rw [if_neg hi,hrd (i - 1) (by omega)]
    obtain ⟨w3,_⟩:=hw l[i - 1] (List.getElem_mem (by omega))
    rw [wm,hrd (i - 1) (by omega),hq,wi]
    refine ev_pos (by omega) (ev_pos (by omega) (ev_pos (by omega) ?_))
    simp only [before]
    refine ev_bind (cmp_spec _ _ w3 w1) (ev_ite (fun h3 => ?_) (fun h3 => ?_))
    ·rw [decide_eq_false (by omega),Bool.false_and]
     exact ev_now _
    ·rw [decide_eq_true (by omega),Bool.true_and]
     exact ih
  ·rw [h1,Bool.eq_false_iff.2 h2]
   exact ev_now _
  ·rw [Bool.eq_false_iff.2 h1]
   exact ev_now _
theorem goodLabels_spec (l : List S53) (hf : fitL l) : Ev (fun k => spec_GoodLabels.f k l) (goodL l):=by
 unfold spec_GoodLabels.f goodL
 refine ev_ite (fun h => ?_) (fun h => ?_)
 ·rw [decide_eq_false (by omega)]
  exact ev_now _
 ·rw [decide_eq_true (by omega),Bool.true_and]
  exact goodLabels_spec_l l hf
end Go.Proofs.YtacaelfdmlegdaaGreatDoor.U
namespace Go.Proofs.YtacaelfdmlegdaaGreatDoor.U
open Go.RowKit Go.Proofs.YtacaelfdmlegdaaGreatDoor.Pr Go.Proofs.YtacaelfdmlegdaaGreatDoorW.PrintWords Go.Proofs.YtacaelfdmlegdaaGreatDoorW.PrintLast Go.Proofs.YtacaelfdmlegdaaGreatDoorW.PrintMore
set_option linter.unusedVariables false
set_option linter.unusedSimpArgs false
def bs (l : List UInt8) : ByteArray:=⟨l.toArray⟩
theorem Y_bs (l : List UInt8) : Y (bs l) = l:=by simp [bs]
theorem bs_Y (s : ByteArray) : bs (Y s) = s:=Y_inj (Y_bs _)
theorem bs_size (l : List UInt8) : (bs l).size = l.length:=by rw [← Y_len,Y_bs]
theorem Y_app (a b : ByteArray) : Y (a ++ b) = Y a ++ Y b:=by simp [ByteArray.data_append]
theorem bs_app (a b : List UInt8) : bs a ++ bs b = bs (a ++ b):=Y_inj (by rw [Y_app,Y_bs,Y_bs,Y_bs])
def ints (l : List UInt8) : List Int:=l.map fun c => (c.toNat : Int)
theorem strOf_ints (l : List UInt8) : strOfNums (ints l) = bs l:=by
 unfold strOfNums ints bs
 rw [List.map_map]
 congr 2
 rw [show ((fun n => UInt8.ofNat n.toNat) ∘ fun (c : UInt8) => (c.toNat : Int)) = id from by funext c;simp,List.map_id]
def esc (c : UInt8) : List UInt8:=if (c.toNat : Int) = 34 ∨ (c.toNat : Int) = 92 then [92,c] else [c]
def quoteL (l : List UInt8) : List UInt8:=34 :: (l.flatMap esc ++ [34])
end Go.Proofs.YtacaelfdmlegdaaGreatDoor.U
namespace Go.Proofs.YtacaelfdmlegdaaGreatDoor.U
open Go.RowKit Go.Proofs.YtacaelfdmlegdaaGreatDoor.Pr Go.Proofs.YtacaelfdmlegdaaGreatDoorW.PrintWords Go.Proofs.YtacaelfdmlegdaaGreatDoorW.PrintLast Go.Proofs.YtacaelfdmlegdaaGreatDoorW.PrintMore
set_option linter.unusedVariables false
set_option linter.unusedSimpArgs false
theorem riseL_all : ∀ (l : List S53) (p : Option (List UInt8)),riseL p l = true → ∀ x ∈ l,nameL (Y x.f0) = true ∧ valL (Y x.f1) = true:=by
 intro l
 induction l with
 | nil => intro p _ x hx;cases hx
 | cons y ys ih =>
  intro p h x hx
  simp only [riseL,Bool.and_eq_true] at h
  rcases List.mem_cons.1 hx with rfl|hx
  ·exact ⟨h.1.1.1,h.1.1.2⟩
  ·exact ih _ h.2 x hx
theorem goodL_all {l : List S53} (h : goodL l = true) : l.length ≤ 20 ∧ ∀ x ∈ l,x.f0.size ≤ 40 ∧ x.f1.size ≤ 100:=by
 unfold goodL at h
 rw [Bool.and_eq_true,decide_eq_true_eq] at h
 refine ⟨h.1,fun x hx => ?_⟩
 obtain ⟨h1,h2⟩:=riseL_all l none h.2 x hx
 simp only [nameL,valL,prL,Bool.and_eq_true,decide_eq_true_eq,Y_len] at h1 h2
 exact ⟨h1.1.1.2,h2.2.1⟩
end Go.Proofs.YtacaelfdmlegdaaGreatDoor.U
namespace Go.Proofs.YtacaelfdmlegdaaGreatDoor.U
open Go.RowKit Go.Proofs.YtacaelfdmlegdaaGreatDoor.Pr Go.Proofs.YtacaelfdmlegdaaGreatDoorW.PrintWords Go.Proofs.YtacaelfdmlegdaaGreatDoorW.PrintLast Go.Proofs.YtacaelfdmlegdaaGreatDoorW.PrintMore
set_option linter.unusedVariables false
set_option linter.unusedSimpArgs false
theorem ev_if {α : Type} {c : Prop} [Decidable c] {a b : Nat → Option α} {x y : α} (h : Ev a x) (h' : Ev b y) : Ev (fun k => if c then a k else b k) (if c then x else y):=by
 by_cases hc : c
 ·rw [if_pos hc];exact ev_pos hc h
 ·rw [if_neg hc];exact ev_neg hc h'
theorem fill_l (s : ByteArray) (hs : s.size ≤ 4611686018427387904) : ∀ d i : Nat,i + d = s.size ∨ (d = 0 ∧ s.size ≤ i ∧ i ≤ s.size + 1) → ∃ v,Ev (fun k => impl_isFilling.l0 k s (i : Int)) v ∧ Ev (fun k => spec_l4Filling.l0 k s (i : Int)) v ∧ (s.size ≤ i → v = true):=by
 intro d
 induction d using Nat.strongRecOn with
 | ind d ih =>
  intro i h
  by_cases hi : i < s.size
  ·have e1 : wrap64 ((i : Int) + 1) = ((i + 1 : Nat) : Int):=w64n hi (by omega)
   have e2 : wrap64 ((((i + 1 : Nat)) : Int) + 1) = ((i + 2 : Nat) : Int):=by unfold wrap64;omega
   by_cases c : bt s (i : Int) = 36
   ·by_cases c1 : i + 1 = s.size
    ·refine ⟨false,?_,?_,fun hx => by omega⟩
     ·refine ev_step (fun _ => impl_isFilling.l0.eq_2 ..) (ev_pos (by omega) (ev_pos (by omega) (ev_pos c (ev_pos ?_ (ev_now _)))))
      rw [e1];omega
     ·refine ev_step (fun _ => spec_l4Filling.l0.eq_2 ..) (ev_pos (by omega) (ev_pos (by omega) (ev_pos c (ev_pos ?_ (ev_now _)))))
      rw [e1];omega
    ·have lead : ∀ v : Bool,(bt s ((i + 1 : Nat) : Int) = 36 → v = v) → True:=fun _ _ => trivial
     obtain ⟨v,h1,h2,h3⟩:=ih (d - 2) (by omega) (i + 2) (by omega)
     by_cases c2 : bt s ((i + 1 : Nat) : Int) = 36
     ·refine ⟨v,?_,?_,fun hx => by omega⟩
      ·refine ev_step (fun _ => impl_isFilling.l0.eq_2 ..) (ev_pos (by omega) (ev_pos (by omega) (ev_pos c (ev_neg ?_ ?_))))
       ·rw [e1];omega
       ·rw [e1,e2]
        exact ev_pos (by omega) (ev_pos (by omega) (ev_pos c2 h1))
      ·refine ev_step (fun _ => spec_l4Filling.l0.eq_2 ..) (ev_pos (by omega) (ev_pos (by omega) (ev_pos c (ev_neg ?_ ?_))))
       ·rw [e1];omega
       ·rw [e1,e2]
        exact ev_pos (by omega) (ev_pos (by omega) (ev_pos c2 h2))
     ·refine ⟨if bt s ((i + 1 : Nat) : Int) < 49 then false else if bt s ((i + 1 : Nat) : Int) > 57 then false else v,?_,?_,fun hx => by omega⟩
      ·refine ev_step (fun _ => impl_isFilling.l0.eq_2 ..) (ev_pos (by omega) (ev_pos (by omega) (ev_pos c (ev_neg ?_ ?_))))
       ·rw [e1];omega
       ·rw [e1,e2]
        exact ev_pos (by omega) (ev_pos (by omega) (ev_neg c2 (ev_if (ev_now _) (ev_if (ev_now _) h1))))
      ·refine ev_step (fun _ => spec_l4Filling.l0.eq_2 ..) (ev_pos (by omega) (ev_pos (by omega) (ev_pos c (ev_neg ?_ ?_))))
       ·rw [e1];omega
       ·rw [e1,e2]
        exact ev_pos (by omega) (ev_pos (by omega) (ev_neg c2 (ev_if (ev_now _) (ev_if (ev_now _) h2))))
   ·obtain ⟨v,h1,h2,h3⟩:=ih (d - 1) (by omega) (i + 1) (by omega)
    refine ⟨v,?_,?_,fun hx => by omega⟩
    ·refine ev_step (fun _ => impl_isFilling.l0.eq_2 ..) (ev_pos (by omega) (ev_pos (by omega) (ev_neg c ?_)))
     rw [e1];exact h1
    ·refine ev_step (fun _ => spec_l4Filling.l0.eq_2 ..) (ev_pos (by omega) (ev_pos (by omega) (ev_neg c ?_)))
     rw [e1];exact h2
  ·exact ⟨true,ev_step (fun _ => impl_isFilling.l0.eq_2 ..) (ev_neg (by omega) (ev_now _)),ev_step (fun _ => spec_l4Filling.l0.eq_2 ..) (ev_neg (by omega) (ev_now _)),fun _ => rfl⟩
theorem fill_two (s : ByteArray) (hs : s.size ≤ 4611686018427387904) : ∃ v,Ev (fun k => impl_isFilling.f k s) v ∧ Ev (fun k => spec_l4Filling.f k s) v ∧ (s.toList = [] → v = true):=by
 obtain ⟨v,h1,h2,h3⟩:=fill_l s hs s.size 0 (by omega)
 have hp1:=printed_impl s (by omega) 100
 have hp2:=printed_spec s (by omega)
 by_cases hz : s.size ≤ 100
 ·cases hp : (Y s).all prC with
  | true =>
   refine ⟨v,?_,?_,fun he => h3 ?_⟩
   ·unfold impl_isFilling.f
    refine ev_bind hp1 (ev_pos ?_ h1)
    unfold prL;rw [Y_len,hp,decide_eq_true hz];rfl
   ·unfold spec_l4Filling.f
    refine ev_neg (by omega) (ev_bind hp2 (ev_step (fun _ => spec_l4Filling.j0.eq_2 ..) (ev_neg (by rw [hp];decide) h2)))
   ·have:=Y_len s;rw [show Y s = [] from Y_eq.symm.trans he] at this;simp at this;omega
  | false =>
   refine ⟨false,?_,?_,fun he => ?_⟩
   ·unfold impl_isFilling.f
    refine ev_bind hp1 (ev_neg ?_ (ev_now _))
    unfold prL;rw [hp,Bool.and_false];decide
   ·unfold spec_l4Filling.f
    refine ev_neg (by omega) (ev_bind hp2 (ev_step (fun _ => spec_l4Filling.j0.eq_2 ..) (ev_pos (by rw [hp];rfl) (ev_now _))))
   ·rw [show Y s = [] from Y_eq.symm.trans he] at hp;cases hp
 ·refine ⟨false,?_,?_,fun he => ?_⟩
  ·unfold impl_isFilling.f
   refine ev_bind hp1 (ev_neg ?_ (ev_now _))
   unfold prL;rw [Y_len,decide_eq_false hz,Bool.false_and];decide
  ·unfold spec_l4Filling.f
   exact ev_pos (by omega) (ev_step (fun _ => spec_l4Filling.j0.eq_2 ..) (ev_pos rfl (ev_now _)))
  ·have:=Y_len s;rw [show Y s = [] from Y_eq.symm.trans he] at this;simp at this;omega
end Go.Proofs.YtacaelfdmlegdaaGreatDoor.U
namespace Go.Proofs.YtacaelfdmlegdaaGreatDoor.U
open Go.RowKit Go.Proofs.YtacaelfdmlegdaaGreatDoor.Pr Go.Proofs.YtacaelfdmlegdaaGreatDoorW.PrintWords Go.Proofs.YtacaelfdmlegdaaGreatDoorW.PrintLast Go.Proofs.YtacaelfdmlegdaaGreatDoorW.PrintMore
set_option linter.unusedVariables false
set_option linter.unusedSimpArgs false
def patB (s : ByteArray) : Bool:=prL 100 (Y s) && (altA s 0 [] []).2
def patA (s : ByteArray) : List (List Int):=if prL 100 (Y s) = true then (altA s 0 [] []).1 else []
theorem prL_size {s : ByteArray} {n : Nat} (h : prL n (Y s) = true) : s.size ≤ n:=by
 unfold prL at h
 rw [Y_len,Bool.and_eq_true,decide_eq_true_eq] at h
 exact h.1
theorem alt_spec (s : ByteArray) (hs : s.size ≤ 9223372036854775807) : Ev (fun k => spec_l2Alternatives.f k s) (patA s,patB s):=by
 unfold spec_l2Alternatives.f patB patA prL
 rw [Y_len]
 refine ev_ite (fun h => ?_) (fun h => ?_)
 ·rw [decide_eq_false (by omega),Bool.false_and,Bool.false_and,if_neg (by decide)]
  exact ev_now _
 ·rw [decide_eq_true (by omega),Bool.true_and]
  refine ev_bind (printed_spec s hs) (ev_ite (fun h1 => ?_) (fun h1 => ?_))
  ·rw [h1,Bool.true_and,if_pos rfl]
   exact ev_now _
  ·rw [Bool.eq_false_iff.2 h1,Bool.false_and,if_neg (by decide)]
   exact ev_now _
theorem alt_impl (s : ByteArray) (hs : s.size ≤ 9223372036854775807) : Ev (fun k => impl_alternatives.f k s) ((patA s).map (List.map altP),patB s):=by
 unfold impl_alternatives.f patB patA
 refine ev_bind (printed_impl s hs 100) (ev_ite (fun h1 => ?_) (fun h1 => ?_))
 ·have h2:=prL_size h1
  rw [h1,Bool.true_and,if_pos rfl]
  exact ev_pos (by omega) (ev_now _)
 ·rw [Bool.eq_false_iff.2 h1,Bool.false_and,if_neg (by decide)]
  exact ev_now _
theorem pat_spec (s : ByteArray) (hs : s.size ≤ 9223372036854775807) : Ev (fun k => spec_GoodPattern.f k s) (patB s):=by
 unfold spec_GoodPattern.f
 exact ev_bind (alt_spec s hs) (ev_now _)
theorem pat_impl (s : ByteArray) (hs : s.size ≤ 9223372036854775807) : Ev (fun k => impl_GoodPattern.f k s) (patB s):=by
 unfold impl_GoodPattern.f
 exact ev_bind (alt_impl s hs) (ev_now _)
end Go.Proofs.YtacaelfdmlegdaaGreatDoor.U
namespace Go.Proofs.YtacaelfdmlegdaaGreatDoor.U
open Go.RowKit Go.Proofs.YtacaelfdmlegdaaGreatDoor.Pr Go.Proofs.YtacaelfdmlegdaaGreatDoorW.PrintWords Go.Proofs.YtacaelfdmlegdaaGreatDoorW.PrintLast Go.Proofs.YtacaelfdmlegdaaGreatDoorW.PrintMore
set_option linter.unusedVariables false
set_option linter.unusedSimpArgs false
theorem any_all_String {α : Type} (P : Nat → α → Option Bool) (p : α → Bool) : ∀ l : List α,(∀ x ∈ l,Ev (fun k => P k x) (p x)) → ∃ K,∀ k,K ≤ k → ∀ x ∈ l,P k x = some (p x):=by
 intro l
 induction l with
 | nil => intro _;exact ⟨0,fun _ _ _ h => by cases h⟩
 | cons y l ih =>
  intro h
  obtain ⟨K,h1⟩:=ih (fun x hx => h x (List.mem_cons_of_mem _ hx))
  obtain ⟨K',h2⟩:=h y (List.mem_cons_self ..)
  refine ⟨max K K',fun k hk x hx => ?_⟩
  rcases List.mem_cons.1 hx with rfl|hx
  ·exact h2 k (by omega)
  ·exact h1 k (by omega) x hx
theorem any_at_String (P : ByteArray → Option Bool) (p : ByteArray → Bool) (l : List ByteArray) (hl : l.length ≤ 9223372036854775807) (h : ∀ x ∈ l,P x = some (p x)) : ∀ (d k i : Nat),i + d = l.length → d < k → ∃ r,slices_IndexFunc_string_string.l0 P l k (i : Int) = some r ∧ decide (0 ≤ r) = (l.drop i).any p:=by
 have hrd : ∀ (i : Nat) (h : i < l.length),rdOf ByteArray.empty l (i : Int) = l[i]:=fun i h => getD_lt h
 intro d
 induction d with
 | zero =>
  intro k i h1 h2
  obtain ⟨k,rfl⟩ : ∃ m,k = m + 1:=⟨k - 1,by omega⟩
  simp only [slices_IndexFunc_string_string.l0]
  rw [if_neg (by omega),List.drop_eq_nil_of_le (by omega),List.any_nil]
  exact ⟨-1,rfl,rfl⟩
 | succ d ih =>
  intro k i h1 h2
  obtain ⟨k,rfl⟩ : ∃ m,k = m + 1:=⟨k - 1,by omega⟩
  have hi : i < l.length:=by omega
  have hp : P l[i] = some (p l[i]):=h l[i] (List.getElem_mem hi)
  simp only [slices_IndexFunc_string_string.l0]
  rw [if_pos (by omega),if_pos (by omega),hrd i hi,hp,Option.bind_some,List.drop_eq_getElem_cons hi,List.any_cons,w64n hi (by omega)]
  by_cases hq : p l[i] = true
  ·rw [if_pos hq,hq,Bool.true_or]
   exact ⟨i,rfl,decide_eq_true (by omega)⟩
  ·rw [if_neg hq,Bool.eq_false_iff.2 hq,Bool.false_or]
   exact ih k (i + 1) (by omega) (by omega)
theorem any_String (P : Nat → ByteArray → Option Bool) (p : ByteArray → Bool) (l : List ByteArray) (hl : l.length ≤ 9223372036854775807) (h : ∀ x ∈ l,Ev (fun k => P k x) (p x)) : Ev (fun k => slices_ContainsFunc_string_string.f k (P k) l) (l.any p):=by
 obtain ⟨K,hK⟩:=any_all_String P p l h
 refine ⟨max K (l.length + 1),fun k hk => ?_⟩
 obtain ⟨r,h1,h2⟩:=any_at_String (P k) p l hl (hK k (by omega)) l.length k 0 (by omega) (by omega)
 have h3 : slices_IndexFunc_string_string.f k (P k) l = some r:=h1
 show ((slices_IndexFunc_string_string.f k (P k) l).bind fun j => some (decide (0 ≤ j))) = some (l.any p)
 rw [h3,Option.bind_some,h2]
 rfl
end Go.Proofs.YtacaelfdmlegdaaGreatDoor.U
namespace Go.Proofs.YtacaelfdmlegdaaGreatDoor.U
open Go.RowKit Go.Proofs.YtacaelfdmlegdaaGreatDoor.Pr Go.Proofs.YtacaelfdmlegdaaGreatDoorW.PrintWords Go.Proofs.YtacaelfdmlegdaaGreatDoorW.PrintLast Go.Proofs.YtacaelfdmlegdaaGreatDoorW.PrintMore
set_option linter.unusedVariables false
set_option linter.unusedSimpArgs false
theorem toStringS (l : List ByteArray) (hl : (l.length ≤ 1048576 ∧ ∀ y ∈ l,y.size ≤ 1048576)) : Ev (fun k => laws_toStringS.f k l) (l):=by
 obtain ⟨hl,hs⟩:=hl
 unfold laws_toStringS.f
 repeat (first|(with_reducible refine ev_pos (by first|omega|rfl|decide) ?_)|(with_reducible refine ev_neg (by first|omega|decide) ?_))
 have key:=ev_copy (F:=fun k y i => laws_toStringS.l0 k l y i) (fun x => x) l (List.replicate ((l.length : Int) : Int).toNat (⟨#[]⟩ : ByteArray)) (by simp) ?step ?done
 case step =>
  intro i h y r hy hr
  refine ev_step (fun _ => laws_toStringS.l0.eq_2 ..) ?_
  repeat (first|(with_reducible refine ev_pos (by first|omega|rfl|decide) ?_)|(with_reducible refine ev_neg (by first|omega|decide) ?_))
  rw [rdOf_at h,w64n h (by omega),Int.toNat_natCast]
  exact hr
 case done =>
  intro y hy
  refine ev_step (fun _ => laws_toStringS.l0.eq_2 ..) ?_
  repeat (first|(with_reducible refine ev_pos (by first|omega|rfl|decide) ?_)|(with_reducible refine ev_neg (by first|omega|decide) ?_))
  exact ev_now _
 simpa using key
theorem eqStringS (l : List ByteArray) (hl : l.length ≤ 1048576) : Ev (fun k => laws_eqStringS.f k l l) true:=by
 unfold laws_eqStringS.f
 refine ev_pos rfl ?_
 refine up_ind l.length (fun i => Ev (fun k => laws_eqStringS.l0 k l l (i : Int)) true) ?_ ?_ 0 (by omega)
 ·refine ev_step (fun _ => laws_eqStringS.l0.eq_2 ..) ?_
  refine ev_neg (by omega) ?_
  exact ev_now _
 ·intro i h ih
  refine ev_step (fun _ => laws_eqStringS.l0.eq_2 ..) ?_
  repeat (first|(with_reducible refine ev_pos (by first|omega|rfl|decide) ?_)|(with_reducible refine ev_neg (by first|omega|decide) ?_))
  rw [w64n h (by omega)]
  exact ih
theorem szStringS (l : List ByteArray) (c : Int) (h0 : 0 ≤ c) (h1 : c ≤ 1048576) (hl : l.length ≤ maxLen) (hw : ∀ x ∈ l,x.size ≤ maxLen) : ∃ r,Ev (fun k => laws_szStringS.f k l c) r ∧ r ≤ c ∧ (0 ≤ r → (l.length ≤ 1048576 ∧ ∀ y ∈ l,y.size ≤ 1048576)):=by
 simp only [maxLen] at hl
 unfold laws_szStringS.f
 rw [w64 (x:=c - (l.length : Int)) (by omega) (by omega)]
 by_cases hn : c - (l.length : Int) < 0
 ·exact ⟨-1,ev_pos hn (ev_now _),by omega,fun h => absurd h (by decide)⟩
 ·have key:=up_ind l.length (fun i => ∀ c : Int,0 ≤ c → c ≤ 1048576 → ∃ r,Ev (fun k => laws_szStringS.l0 k l c (i : Int)) r ∧ r ≤ c ∧ (0 ≤ r → ∀ j (h : j < l.length),i ≤ j → l[j].size ≤ 1048576)) ?d ?s 0 (by omega) (c - (l.length : Int)) (by omega) (by omega)
  case d => exact fun c h0 h1 => ⟨c,ev_step (fun _ => laws_szStringS.l0.eq_2 ..) (ev_neg (by omega) (ev_now _)),Int.le_refl _,fun _ j h hj => by omega⟩
  case s =>
   intro i h ih c h0 h1
   have hz:=hw _ (List.getElem_mem h)
   simp only [maxLen] at hz
   by_cases hr : c - (l[i].size : Int) < 0
   ·refine ⟨-1,ev_step (fun _ => laws_szStringS.l0.eq_2 ..) ?_,by omega,fun h => absurd h (by decide)⟩
    repeat (first|(with_reducible refine ev_pos (by first|omega|rfl|decide) ?_)|(with_reducible refine ev_neg (by first|omega|decide) ?_))
    rw [rdOf_at h,w64 (x:=c - (l[i].size : Int)) (by omega) (by omega)]
    exact ev_pos hr (ev_now _)
   ·obtain ⟨r,e,hrc,hs⟩:=ih (c - (l[i].size : Int)) (by omega) (by omega)
    refine ⟨r,ev_step (fun _ => laws_szStringS.l0.eq_2 ..) ?_,by omega,fun h2 j hj hij => ?_⟩
    ·repeat (first|(with_reducible refine ev_pos (by first|omega|rfl|decide) ?_)|(with_reducible refine ev_neg (by first|omega|decide) ?_))
     rw [rdOf_at h,w64 (x:=c - (l[i].size : Int)) (by omega) (by omega)]
     refine ev_neg hr ?_
     rw [w64n h (by omega)]
     exact e
    ·by_cases ej : j = i
     ·subst ej
      omega
     ·exact hs h2 j hj (by omega)
  obtain ⟨r,e,hrc,hs⟩:=key
  refine ⟨r,ev_neg hn e,by omega,fun h => ⟨by omega,fun y hy => ?_⟩⟩
  obtain ⟨j,hj,rfl⟩:=List.getElem_of_mem hy
  exact hs h j hj (by omega)
end Go.Proofs.YtacaelfdmlegdaaGreatDoor.U
namespace Go.Proofs.YtacaelfdmlegdaaGreatDoor.U
open Go.RowKit Go.Proofs.YtacaelfdmlegdaaGreatDoor.Pr Go.Proofs.YtacaelfdmlegdaaGreatDoorW.PrintWords Go.Proofs.YtacaelfdmlegdaaGreatDoorW.PrintLast Go.Proofs.YtacaelfdmlegdaaGreatDoorW.PrintMore
set_option linter.unusedVariables false
set_option linter.unusedSimpArgs false
def oneL (l : List Int) (a : Int) : Bool:=l.any fun y => decide (y = a)
theorem one_index (l : List Int) (hl : l.length ≤ 1048576) (s : Int) : ∃ r,Ev (fun k => slices_Index_int_int.f k l s) r ∧ decide (r ≥ 0) = oneL l s:=by
 unfold slices_Index_int_int.f oneL
 refine up_ind l.length (fun i => ∃ r,Ev (fun k => slices_Index_int_int.l0 k l s (l.length : Int) (i : Int)) r ∧ decide (r ≥ 0) = ((l.drop i).any fun y => decide (y = s))) ?_ ?_ 0 (by omega)
 ·rw [List.drop_length]
  exact ⟨-1,ev_step (fun _ => slices_Index_int_int.l0.eq_2 ..) (ev_neg (by omega) (ev_now _)),rfl⟩
 ·intro i h ⟨r,ih,hr⟩
  rw [List.drop_eq_getElem_cons h,List.any_cons]
  by_cases h1 : s = l[i]
  ·refine ⟨i,ev_step (fun _ => slices_Index_int_int.l0.eq_2 ..) (ev_pos (by omega) (ev_pos (by omega) (ev_pos (by omega) ?_))),?_⟩
   ·rw [rd_at h]
    exact ev_pos h1 (ev_now _)
   ·rw [decide_eq_true h1.symm,decide_eq_true (by omega),Bool.true_or]
  ·refine ⟨r,ev_step (fun _ => slices_Index_int_int.l0.eq_2 ..) (ev_pos (by omega) (ev_pos (by omega) (ev_pos (by omega) ?_))),?_⟩
   ·rw [rd_at h,w64n h (by omega)]
    exact ev_neg h1 ih
   ·rw [decide_eq_false (show ¬ l[i] = s from fun e => h1 e.symm),Bool.false_or]
    exact hr
theorem one_impl (l : List Int) (hl : l.length ≤ 1048576) (s : Int) : Ev (fun k => impl_isOne.f k s l) (oneL l s):=by
 obtain ⟨r,h1,h2⟩:=one_index l hl s
 unfold impl_isOne.f slices_Contains_int_int.f
 rw [← h2]
 exact ev_bind (ev_bind h1 (ev_now _)) (ev_now _)
section
variable (a : Int) (fr : List ByteArray) (sep pat tg val : ByteArray) (md : Int) (an p1 p2 tn vf : Bool)
def rJ3 (b : Bool) : Bool:=if b = true then false else if oneL [5,6,7] a = true then (if (fr.length : Int) > 0 then false else if sep.toList = [] then (if pat.toList = [] then true else !(oneL [4,8] a)) else false) else (if pat.toList = [] then true else !(oneL [4,8] a))
def rJ2 (b : Bool) : Bool:=if b = true then false else if a = 4 then (if md < 1 then rJ3 a fr sep pat true else if md > 1000 then rJ3 a fr sep pat true else rJ3 a fr sep pat false) else rJ3 a fr sep pat (md != 0)
def rJ1 (b : Bool) : Bool:=if b = true then false else if vf = true then (if val.toList = [] then rJ2 a fr sep pat md false else rJ2 a fr sep pat md (!(oneL [3,5] a))) else rJ2 a fr sep pat md true
def rJ0 (b : Bool) : Bool:=if b = true then false else if (oneL [3,4,8] a != (tg.toList != ([] : List UInt8))) = true then rJ1 a fr sep pat val md vf true else if tg.toList = [] then rJ1 a fr sep pat val md vf false else rJ1 a fr sep pat val md vf (!tn)
def rI : Bool:=if a < 1 then rJ0 a fr sep pat tg val md tn vf true else if a > 8 then rJ0 a fr sep pat tg val md tn vf true else if (fr.length : Int) > 10 then rJ0 a fr sep pat tg val md tn vf true else if an = true then rJ0 a fr sep pat tg val md tn vf true else if p1 = true then rJ0 a fr sep pat tg val md tn vf (!p2) else rJ0 a fr sep pat tg val md tn vf true
def sJ8 (b : Bool) : Bool:=if b = true then (if vf = true then (if a = 4 then (if md ≥ 1 then decide (md ≤ 1000) else false) else md == 0) else false) else (if val.toList = [] then (if a = 4 then (if md ≥ 1 then decide (md ≤ 1000) else false) else md == 0) else false)
def sJ7 : Bool:=if a = 3 then sJ8 a val md vf true else sJ8 a val md vf (a == 5)
def sJ6 (b : Bool) : Bool:=if b = true then (if tn = true then sJ7 a val md vf else false) else (if tg.toList = [] then sJ7 a val md vf else false)
def sJ5 (x6 b : Bool) : Bool:=if b = true then false else if x6 = true then sJ6 a tg val md tn vf true else sJ6 a tg val md tn vf (a == 3)
def sJ4 (b : Bool) : Bool:=if b = true then sJ5 a tg val md tn vf b (pat.toList != ([] : List UInt8)) else sJ5 a tg val md tn vf b false
def sJ3 (b : Bool) : Bool:=if b = true then false else if a = 4 then sJ4 a pat tg val md tn vf true else sJ4 a pat tg val md tn vf (a == 8)
def sJ2 (b : Bool) : Bool:=if b = true then (if (fr.length : Int) > 0 then sJ3 a pat tg val md tn vf true else sJ3 a pat tg val md tn vf (sep.toList != ([] : List UInt8))) else sJ3 a pat tg val md tn vf false
def sL : Bool:=if an = true then false else if a = 5 then sJ2 a fr sep pat tg val md tn vf true else if a = 6 then sJ2 a fr sep pat tg val md tn vf true else sJ2 a fr sep pat tg val md tn vf (a == 7)
def sJ0 (b : Bool) : Bool:=if b = true then false else sL a fr sep pat tg val md an tn vf
def sI : Bool:=if a < 1 then sJ0 a fr sep pat tg val md an tn vf true else if a > 8 then sJ0 a fr sep pat tg val md an tn vf true else if (fr.length : Int) > 10 then sJ0 a fr sep pat tg val md an tn vf true else if p1 = true then sJ0 a fr sep pat tg val md an tn vf (!p2) else sJ0 a fr sep pat tg val md an tn vf true
theorem rel_same (ht : tg.toList = [] → tn = false) (hv : val.toList = [] → vf = true) : rI a fr sep pat tg val md an p1 p2 tn vf = sI a fr sep pat tg val md an p1 p2 tn vf:=by
 by_cases ha : a < 1
 ·simp [rI,sI,ha,rJ0,sJ0]
 by_cases hb : a > 8
 ·simp [rI,sI,ha,hb,rJ0,sJ0]
 have h8 : a = 1 ∨ a = 2 ∨ a = 3 ∨ a = 4 ∨ a = 5 ∨ a = 6 ∨ a = 7 ∨ a = 8:=by omega
 cases an with
 | true => simp only [rI,sI,sJ0,sL,rJ0,if_true,if_false,ite_self,Bool.false_eq_true]
 | false =>
  cases p1 with
  | false => simp only [rI,sI,sJ0,rJ0,if_true,if_false,ite_self,Bool.false_eq_true]
  | true =>
   cases p2 with
   | false => simp only [rI,sI,sJ0,rJ0,if_true,if_false,ite_self,Bool.false_eq_true,Bool.not_false]
   | true =>
    by_cases hl : (fr.length : Int) > 10
    ·simp only [rI,sI,sJ0,rJ0,if_true,if_false,ite_self,Bool.false_eq_true,hl]
    ·have key : rJ0 a fr sep pat tg val md tn vf false = sL a fr sep pat tg val md false tn vf:=by
      by_cases t0 : tg.toList = [] <;> by_cases v0 : val.toList = [] <;> by_cases q0 : pat.toList = [] <;> by_cases s0 : sep.toList = [] <;> by_cases f0 : fr.length > 0 <;>
       (try rw [ht t0]) <;> (try rw [hv v0]) <;>
       rcases h8 with rfl|rfl|rfl|rfl|rfl|rfl|rfl|rfl <;>
       simp [rJ0,rJ1,rJ2,rJ3,sL,sJ2,sJ3,sJ4,sJ5,sJ6,sJ7,sJ8,oneL,t0,v0,q0,s0,f0] <;> (cases tn <;> cases vf <;> first|done|(by_cases m0 : md = 0 <;> simp [m0];done)|(by_cases m1 : md < 1 <;> by_cases m2 : 1000 < md <;> simp [m1,m2] <;> omega))
     simp only [rI,sI,sJ0,if_neg ha,if_neg hb,if_neg hl,if_true,if_false,Bool.false_eq_true,Bool.not_true,key]
end
section
variable (a : Int) (fr : List ByteArray) (sep pat tg val : ByteArray) (md : Int) (vf : Bool)
theorem i_j3 (b : Bool) : Ev (fun k => impl_GoodRelabel.j3 k a b a fr sep pat tg val md) (rJ3 a fr sep pat b):=by
 unfold rJ3
 exact ev_step (fun _ => impl_GoodRelabel.j3.eq_2 ..) (ev_if (ev_now _) (ev_bind (one_impl _ (by simp) _) (ev_if (ev_if (ev_now _) (ev_if (ev_if (ev_now _) (ev_bind (one_impl _ (by simp) _) (ev_now _))) (ev_now _))) (ev_if (ev_now _) (ev_bind (one_impl _ (by simp) _) (ev_now _))))))
theorem i_j2 (b : Bool) : Ev (fun k => impl_GoodRelabel.j2 k a b a fr sep pat tg val md) (rJ2 a fr sep pat md b):=by
 unfold rJ2
 exact ev_step (fun _ => impl_GoodRelabel.j2.eq_2 ..) (ev_if (ev_now _) (ev_if (ev_if (i_j3 ..) (ev_if (i_j3 ..) (i_j3 ..))) (i_j3 ..)))
theorem i_j1 (hv : Ev (fun k => impl_isFilling.f k val) vf) (b : Bool) : Ev (fun k => impl_GoodRelabel.j1 k a b a fr sep pat tg val md) (rJ1 a fr sep pat val md vf b):=by
 unfold rJ1
 exact ev_step (fun _ => impl_GoodRelabel.j1.eq_2 ..) (ev_if (ev_now _) (ev_bind hv (ev_if (ev_if (i_j2 ..) (ev_bind (one_impl _ (by simp) _) (i_j2 ..))) (i_j2 ..))))
theorem i_j0 (hv : Ev (fun k => impl_isFilling.f k val) vf) (ht : tg.size ≤ 9223372036854775807) (b : Bool) : Ev (fun k => impl_GoodRelabel.j0 k a b a fr sep pat tg val md) (rJ0 a fr sep pat tg val md (nameL (Y tg)) vf b):=by
 unfold rJ0
 exact ev_step (fun _ => impl_GoodRelabel.j0.eq_2 ..) (ev_if (ev_now _) (ev_bind (one_impl _ (by simp) _) (ev_if (i_j1 _ _ _ _ _ _ _ _ hv _) (ev_if (i_j1 _ _ _ _ _ _ _ _ hv _) (ev_bind (name_impl _ ht) (i_j1 _ _ _ _ _ _ _ _ hv _))))))
def anB : Bool:=fr.any fun x => !(nameL (Y x))
theorem rel_impl (hv : Ev (fun k => impl_isFilling.f k val) vf) (ht : tg.size ≤ 9223372036854775807) (hp : pat.size ≤ 9223372036854775807) (hs : sep.size ≤ 9223372036854775807) (hf : fr.length ≤ 9223372036854775807 ∧ ∀ x ∈ fr,x.size ≤ 9223372036854775807) :
  Ev (fun k => impl_GoodRelabel.f k a fr sep pat tg val md) (rI a fr sep pat tg val md (anB fr) (prL 10 (Y sep)) (patB pat) (nameL (Y tg)) vf):=by
 unfold rI impl_GoodRelabel.f
 have h0:=i_j0 a fr sep pat tg val md vf hv ht
 have ha : Ev (fun k => any_57_58.f k fr) (anB fr) :=
  any_String (fun k x => impl_GoodRelabel_1.f k x) (fun x => !(nameL (Y x))) fr hf.1 (fun x hx => ev_bind (name_impl x (hf.2 x hx)) (ev_now _))
 exact ev_if (h0 _) (ev_if (h0 _) (ev_if (h0 _) (ev_bind ha (ev_if (h0 _) (ev_bind (printed_impl sep hs 10) (ev_if (ev_bind (pat_impl pat hp) (h0 _)) (h0 _)))))))
theorem s_j8 (hv : Ev (fun k => spec_l4Filling.f k val) vf) (b : Bool) : Ev (fun k => spec_GoodRelabel.j8 k b a fr sep pat tg val md) (sJ8 a val md vf b):=by
 unfold sJ8
 exact ev_step (fun _ => spec_GoodRelabel.j8.eq_2 ..) (ev_if (ev_bind hv (ev_if (ev_if (ev_if (ev_now _) (ev_now _)) (ev_now _)) (ev_now _))) (ev_if (ev_if (ev_if (ev_now _) (ev_now _)) (ev_now _)) (ev_now _)))
theorem s_j7 (hv : Ev (fun k => spec_l4Filling.f k val) vf) : Ev (fun k => spec_GoodRelabel.j7 k a fr sep pat tg val md) (sJ7 a val md vf):=by
 unfold sJ7
 exact ev_step (fun _ => spec_GoodRelabel.j7.eq_2 ..) (ev_if (s_j8 _ _ _ _ _ _ _ _ hv _) (s_j8 _ _ _ _ _ _ _ _ hv _))
theorem s_j6 (hv : Ev (fun k => spec_l4Filling.f k val) vf) (ht : tg.size ≤ 9223372036854775807) (b : Bool) : Ev (fun k => spec_GoodRelabel.j6 k b a fr sep pat tg val md) (sJ6 a tg val md (nameL (Y tg)) vf b):=by
 unfold sJ6
 have h7:=s_j7 a fr sep pat tg val md vf hv
 exact ev_step (fun _ => spec_GoodRelabel.j6.eq_2 ..) (ev_if (ev_bind (name_spec _ ht) (ev_if h7 (ev_now _))) (ev_if h7 (ev_now _)))
theorem s_j5 (hv : Ev (fun k => spec_l4Filling.f k val) vf) (ht : tg.size ≤ 9223372036854775807) (x6 b : Bool) : Ev (fun k => spec_GoodRelabel.j5 k x6 b a fr sep pat tg val md) (sJ5 a tg val md (nameL (Y tg)) vf x6 b):=by
 unfold sJ5
 have h6:=s_j6 a fr sep pat tg val md vf hv ht
 exact ev_step (fun _ => spec_GoodRelabel.j5.eq_2 ..) (ev_if (ev_now _) (ev_if (h6 _) (h6 _)))
theorem s_j4 (hv : Ev (fun k => spec_l4Filling.f k val) vf) (ht : tg.size ≤ 9223372036854775807) (b : Bool) : Ev (fun k => spec_GoodRelabel.j4 k b a fr sep pat tg val md) (sJ4 a pat tg val md (nameL (Y tg)) vf b):=by
 unfold sJ4
 have h5:=s_j5 a fr sep pat tg val md vf hv ht
 exact ev_step (fun _ => spec_GoodRelabel.j4.eq_2 ..) (ev_if (h5 _ _) (h5 _ _))
theorem s_j3 (hv : Ev (fun k => spec_l4Filling.f k val) vf) (ht : tg.size ≤ 9223372036854775807) (b : Bool) : Ev (fun k => spec_GoodRelabel.j3 k b a fr sep pat tg val md) (sJ3 a pat tg val md (nameL (Y tg)) vf b):=by
 unfold sJ3
 have h4:=s_j4 a fr sep pat tg val md vf hv ht
 exact ev_step (fun _ => spec_GoodRelabel.j3.eq_2 ..) (ev_if (ev_now _) (ev_if (h4 _) (h4 _)))
theorem s_j2 (hv : Ev (fun k => spec_l4Filling.f k val) vf) (ht : tg.size ≤ 9223372036854775807) (b : Bool) : Ev (fun k => spec_GoodRelabel.j2 k b a fr sep pat tg val md) (sJ2 a fr sep pat tg val md (nameL (Y tg)) vf b):=by
 unfold sJ2
 have h3:=s_j3 a fr sep pat tg val md vf hv ht
 exact ev_step (fun _ => spec_GoodRelabel.j2.eq_2 ..) (ev_if (ev_if (h3 _) (h3 _)) (h3 _))
theorem s_l (hv : Ev (fun k => spec_l4Filling.f k val) vf) (ht : tg.size ≤ 9223372036854775807) (hf : fr.length ≤ 9223372036854775807 ∧ ∀ x ∈ fr,x.size ≤ 9223372036854775807) : Ev (fun k => spec_GoodRelabel.l0 k fr (fr.length : Int) 0 a fr sep pat tg val md) (sL a fr sep pat tg val md (anB fr) (nameL (Y tg)) vf):=by
 have h2:=s_j2 a fr sep pat tg val md vf hv ht
 refine up_ind fr.length (fun i => Ev (fun k => spec_GoodRelabel.l0 k fr (fr.length : Int) (i : Int) a fr sep pat tg val md) (sL a fr sep pat tg val md (anB (fr.drop i)) (nameL (Y tg)) vf)) ?_ ?_ 0 (by omega)
 ·rw [List.drop_length]
  unfold sL
  exact ev_step (fun _ => spec_GoodRelabel.l0.eq_2 ..) (ev_neg (by omega) (ev_if (h2 _) (ev_if (h2 _) (h2 _))))
 ·intro i h ih
  refine ev_step (fun _ => spec_GoodRelabel.l0.eq_2 ..) (ev_pos (by omega) (ev_pos (by omega) (ev_pos (by omega) ?_)))
  rw [rdOf_at h,List.drop_eq_getElem_cons h,w64n h hf.1]
  refine ev_bind (name_spec _ (hf.2 _ (List.getElem_mem h))) (ev_ite (fun h1 => ?_) (fun h1 => ?_))
  ·rw [show anB (fr[i] :: fr.drop (i + 1)) = anB (fr.drop (i + 1)) from by unfold anB;rw [List.any_cons,h1];rfl]
   exact ih
  ·rw [show anB (fr[i] :: fr.drop (i + 1)) = true from by unfold anB;rw [List.any_cons,Bool.eq_false_iff.2 h1];rfl]
   exact ev_now _
theorem rel_spec (hv : Ev (fun k => spec_l4Filling.f k val) vf) (ht : tg.size ≤ 9223372036854775807) (hp : pat.size ≤ 9223372036854775807) (hs : sep.size ≤ 9223372036854775807) (hf : fr.length ≤ 9223372036854775807 ∧ ∀ x ∈ fr,x.size ≤ 9223372036854775807) :
  Ev (fun k => spec_GoodRelabel.f k a fr sep pat tg val md) (sI a fr sep pat tg val md (anB fr) (prL 10 (Y sep)) (patB pat) (nameL (Y tg)) vf):=by
 have h0 : ∀ b,Ev (fun k => spec_GoodRelabel.j0 k b a fr sep pat tg val md) (sJ0 a fr sep pat tg val md (anB fr) (nameL (Y tg)) vf b):=by
  intro b
  unfold sJ0
  exact ev_step (fun _ => spec_GoodRelabel.j0.eq_2 ..) (ev_if (ev_now _) (s_l a fr sep pat tg val md vf hv ht hf))
 unfold sI spec_GoodRelabel.f
 refine ev_if (h0 _) (ev_if (h0 _) (ev_if (h0 _) ?_))
 refine ev_ite (fun h => ?_) (fun h => ?_)
 ·rw [if_neg (by unfold prL;rw [Y_len,decide_eq_false (by omega),Bool.false_and];decide)]
  exact h0 _
 ·rw [show prL 10 (Y sep) = (Y sep).all prC from by unfold prL;rw [Y_len,decide_eq_true (by omega),Bool.true_and]]
  exact ev_bind (printed_spec sep hs) (ev_if (ev_bind (pat_spec pat hp) (h0 _)) (h0 _))
theorem rel_two (hl : val.size ≤ 4611686018427387904) (ht : tg.size ≤ 9223372036854775807) (hp : pat.size ≤ 9223372036854775807) (hs : sep.size ≤ 9223372036854775807) (hf : fr.length ≤ 9223372036854775807 ∧ ∀ x ∈ fr,x.size ≤ 9223372036854775807) :
  ∃ v,Ev (fun k => impl_GoodRelabel.f k a fr sep pat tg val md) v ∧ Ev (fun k => spec_GoodRelabel.f k a fr sep pat tg val md) v:=by
 obtain ⟨vf,h1,h2,h3⟩:=fill_two val hl
 refine ⟨_,rel_impl a fr sep pat tg val md vf h1 ht hp hs hf,?_⟩
 rw [rel_same a fr sep pat tg val md (anB fr) (prL 10 (Y sep)) (patB pat) (nameL (Y tg)) vf (fun h => by rw [show Y tg = [] from Y_eq.symm.trans h];rfl) h3]
 exact rel_spec a fr sep pat tg val md vf h2 ht hp hs hf
end
end Go.Proofs.YtacaelfdmlegdaaGreatDoor.U
namespace Go.Proofs.YtacaelfdmlegdaaGreatDoor.U
open Go.RowKit Go.Proofs.YtacaelfdmlegdaaGreatDoor.Pr Go.Proofs.YtacaelfdmlegdaaGreatDoorW.PrintWords Go.Proofs.YtacaelfdmlegdaaGreatDoorW.PrintLast Go.Proofs.YtacaelfdmlegdaaGreatDoorW.PrintMore
set_option linter.unusedVariables false
set_option linter.unusedSimpArgs false
theorem altP_f2 {c : Int} (h : c ≠ -1) : (altP c).f2 = false:=by unfold altP;rw [if_neg h];split <;> rfl
theorem altP_any : (altP (-2)).f1 = true:=rfl
theorem altP_f1 {c : Int} (h : c ≠ -1) (h2 : c ≠ -2) : altP c = ⟨c,false,false⟩:=by unfold altP;rw [if_neg h,if_neg h2]
theorem row_rd {s : ByteArray} {l : List S108} {k : Nat} (h : k ≤ s.size) : rdOf false (rowP s l) (k : Int) = fitP s l k:=by
 rw [rdOf,Int.toNat_natCast,List.getD_eq_getElem?_getD,rowP_at h];rfl
theorem row_of {s : ByteArray} {l : List S108} {x : List Bool} (hl : x.length = s.size + 1) (h : ∀ q,q ≤ s.size → x[q]? = some (fitP s l q)) : x = rowP s l:=by
 apply List.ext_getElem?
 intro q
 by_cases hq : q ≤ s.size
 ·rw [h q hq,rowP_at hq]
 ·rw [List.getElem?_eq_none (by omega),List.getElem?_eq_none (by rw [rowP_len];omega)]
section
variable (a : List Int) (s : ByteArray) (ha : a.length ≤ 4611686018427387904) (hs : s.size ≤ 1048576)
theorem rest_in (i : Nat) (hi : i < a.length) (r : List Bool) (h : Ev (fun k => spec_l2Rest.l0 k a s (rowP s ((a.map altP).drop i)) ((i : Int) - 1)) r) (ha : a.length ≤ 4611686018427387904) (hs : s.size ≤ 1048576) :
  ∀ (kk : Nat) (x : List Bool),kk ≤ s.size + 1 → x.length = s.size + 1 → (∀ q,kk ≤ q → q ≤ s.size → x[q]? = some (fitP s ((a.map altP).drop i) q)) → Ev (fun k => spec_l2Rest.l1 k a s (rowP s ((a.map altP).drop (i + 1))) (i : Int) x ((kk : Int) - 1)) r:=by
 intro kk
 induction kk with
 | zero =>
  intro x _ hx hq
  refine ev_step (fun _ => spec_l2Rest.l1.eq_2 ..) (ev_neg (by omega) ?_)
  rw [row_of hx (fun q h => hq q (Nat.zero_le _) h),w64 (by omega) (by omega)]
  exact h
 | succ q ih =>
  intro x hk hx hq
  have hil : i < (a.map altP).length:=by simpa using hi
  have hel : (a.map altP)[i] = altP a[i]:=by simp
  have e0 : ((q + 1 : Nat) : Int) - 1 = (q : Int):=by omega
  have e1 : wrap64 ((q : Int) - 1) = (q : Int) - 1:=w64 (by omega) (by omega)
  have e2 : wrap64 ((q : Int) + 1) = ((q + 1 : Nat) : Int):=by rw [w64 (by omega) (by omega)];omega
  have hrl : (rowP s ((a.map altP).drop (i + 1))).length = s.size + 1:=rowP_len _ _
  have key : ∀ v,fitP s ((a.map altP).drop i) q = v → Ev (fun k => spec_l2Rest.l1 k a s (rowP s ((a.map altP).drop (i + 1))) (i : Int) (x.set ((q : Int)).toNat v) (wrap64 ((q : Int) - 1))) r:=by
   intro v hv
   rw [e1,Int.toNat_natCast]
   refine ih _ (by omega) (by rw [List.length_set];exact hx) (fun p h1 h2 => ?_)
   by_cases e : p = q
   ·subst e
    rw [List.getElem?_set_self (by omega),hv]
   ·rw [List.getElem?_set_ne (fun h => e h.symm)]
    exact hq p (by omega) h2
  refine ev_step (fun _ => spec_l2Rest.l1.eq_2 ..) ?_
  rw [e0]
  refine ev_pos (by omega) (ev_pos (by omega) (ev_pos (by omega) ?_))
  rw [rd_at hi,e2]
  by_cases hc : a[i] = -1
  ·have hst : ((a.map altP)[i]).f2 = true:=by rw [hel,hc];rfl
   refine ev_pos hc (ev_pos (by omega) (ev_pos (by omega) ?_))
   rw [row_rd (by omega)]
   refine ev_ite (fun hb => ev_pos (by omega) (key _ ?_)) (fun hb => ev_ite (fun hl => ev_pos (by omega) (ev_pos (by omega) (ev_pos (by omega) (key _ ?_)))) (fun hl => ev_pos (by omega) (key _ ?_)))
   ·rw [fitP_star hil hst]
    by_cases hl : q < s.size
    ·rw [starF_on hl,hb,Bool.true_or]
    ·rw [starF_end hl,hb]
   ·rw [fitP_star hil hst,starF_on (by omega),Bool.eq_false_iff.2 hb,Bool.false_or,← fitP_star hil hst,rdOf,Int.toNat_natCast,List.getD_eq_getElem?_getD,hq (q + 1) (by omega) (by omega)]
    rfl
   ·rw [fitP_star hil hst,starF_end (by omega),Bool.eq_false_iff.2 hb]
  ·have hst : ((a.map altP)[i]).f2 = false:=by rw [hel];exact altP_f2 hc
   refine ev_neg hc (ev_ite (fun hl => ev_pos (by omega) (ev_pos (by omega) ?_)) (fun hl => ev_pos (by omega) (ev_pos (by omega) (key _ ?_))))
   ·rw [row_rd (by omega)]
    refine ev_ite (fun hb => ev_ite (fun h2 => ev_pos (by omega) (ev_pos (by omega) (key _ ?_))) (fun h2 => ev_pos (by omega) (ev_pos (by omega) (key _ ?_)))) (fun hb => ev_pos (by omega) (ev_pos (by omega) (key _ ?_)))
    ·rw [fitP_on hil hst,decide_eq_true (show q < s.size by omega),hel,h2,altP_any,hb];rfl
    ·rw [fitP_on hil hst,decide_eq_true (show q < s.size by omega),hel,altP_f1 hc h2,hb,wrap_bt]
     simp
    ·rw [fitP_on hil hst,Bool.eq_false_iff.2 hb,Bool.and_false,Bool.and_false]
   ·rw [fitP_on hil hst,decide_eq_false (show ¬ q < s.size by omega),Bool.false_and]
theorem rest_spec (ha : a.length ≤ 4611686018427387904) (hs : s.size ≤ 1048576) : Ev (fun k => spec_l2Rest.f k a s) (rowP s (a.map altP)):=by
 have main : ∀ i,i ≤ a.length → Ev (fun k => spec_l2Rest.l0 k a s (rowP s ((a.map altP).drop i)) ((i : Int) - 1)) (rowP s (a.map altP)):=by
  intro i
  induction i with
  | zero =>
   intro _
   exact ev_step (fun _ => spec_l2Rest.l0.eq_2 ..) (ev_neg (by omega) (ev_now _))
  | succ i ih =>
   intro hi
   have h:=ih (by omega)
   have e0 : ((i + 1 : Nat) : Int) - 1 = (i : Int):=by omega
   have e1 : wrap64 ((s.size : Int) + 1) = ((s.size + 1 : Nat) : Int):=by rw [w64 (by omega) (by omega)];omega
   refine ev_step (fun _ => spec_l2Rest.l0.eq_2 ..) ?_
   rw [e0,e1]
   refine ev_pos (by omega) (ev_pos (by omega) (ev_pos (by omega) ?_))
   have:=rest_in a s i (by omega) _ h ha hs (s.size + 1) (List.replicate (s.size + 1) false) (Nat.le_refl _) (by simp) (fun q h1 h2 => by omega)
   rw [show ((s.size + 1 : Nat) : Int) - 1 = (s.size : Int) by omega] at this
   rw [Int.toNat_natCast]
   exact this
 have h:=main a.length (Nat.le_refl _)
 have e1 : wrap64 ((s.size : Int) + 1) = ((s.size + 1 : Nat) : Int):=by rw [w64 (by omega) (by omega)];omega
 unfold spec_l2Rest.f
 rw [e1]
 refine ev_pos (by omega) (ev_pos (by omega) (ev_some (ev_pos (by omega) (ev_pos (by rw [List.length_replicate];omega) ?_))))
 rw [w64 (by omega) (by omega),Int.toNat_natCast,Int.toNat_natCast]
 have e2 : (List.replicate (s.size + 1) false).set s.size true = rowP s ((a.map altP).drop a.length):=by
  refine row_of (by simp) (fun q hq => ?_)
  rw [fitP_nil (by simp)]
  by_cases e : q = s.size
  ·subst e
   rw [List.getElem?_set_self (by simp),decide_eq_true rfl]
  ·rw [List.getElem?_set_ne (fun h => e h.symm),decide_eq_false e,List.getElem?_replicate,if_pos (by omega)]
 rw [e2]
 exact h
end
theorem altS_len (s : ByteArray) (B : Nat) : ∀ (d i : Nat) (o : List (List Int)) (nw : List Int),(∀ x ∈ o,x.length ≤ B) → nw.length + d ≤ B → (∀ x ∈ (altS s d i o nw).1,x.length ≤ B) ∧ (altS s d i o nw).1.length ≤ o.length + d + 1:=by
 intro d
 induction d with
 | zero =>
  intro i o nw h1 h2
  simp only [altS]
  exact ⟨fun x hx => (List.mem_append.1 hx).elim (fun hx => h1 x hx) (fun hx => by rw [List.mem_singleton.1 hx];omega),by simp⟩
 | succ d ih =>
  intro i o nw h1 h2
  have hw : ∀ x ∈ o ++ [nw],x.length ≤ B:=fun x hx => (List.mem_append.1 hx).elim (fun hx => h1 x hx) (fun hx => by rw [List.mem_singleton.1 hx];omega)
  have go : ∀ j (o' : List (List Int)) (nw' : List Int),(∀ x ∈ o',x.length ≤ B) → nw'.length + d ≤ B → o'.length ≤ o.length + 1 → (∀ x ∈ (altS s d j o' nw').1,x.length ≤ B) ∧ (altS s d j o' nw').1.length ≤ o.length + (d + 1) + 1:=fun j o' nw' g1 g2 g3 => ⟨(ih j o' nw' g1 g2).1,by have:=(ih j o' nw' g1 g2).2;omega⟩
  simp only [altS]
  split
  ·split
   ·exact go _ _ _ hw (by simp;omega) (by simp)
   ·split
    ·exact go _ _ _ h1 (by simp;omega) (by omega)
    ·split
     ·exact go _ _ _ h1 (by simp;omega) (by omega)
     ·split
      ·split
       ·split
        ·exact go _ _ _ h1 (by simp;omega) (by omega)
        ·exact ⟨fun x hx => (by cases hx),by simp⟩
       ·exact ⟨fun x hx => (by cases hx),by simp⟩
      ·exact go _ _ _ h1 (by simp;omega) (by omega)
  ·exact ⟨hw,by simp⟩
theorem patA_len (s : ByteArray) : (∀ x ∈ patA s,x.length ≤ 100) ∧ (patA s).length ≤ 101:=by
 unfold patA
 split
 ·rename_i h
  have hz:=prL_size h
  have:=altS_len s s.size s.size 0 [] [] (fun x hx => by cases hx) (by simp)
  unfold altA
  exact ⟨fun x hx => by have:=this.1 x hx;omega,by have:=this.2;simp at this ⊢;omega⟩
 ·exact ⟨fun x hx => (by cases hx),by simp⟩
def partsL (s : ByteArray) : List (List Int) → List ByteArray × Bool
 | [] => ([],false)
 | a :: l => if fitP s (a.map altP) 0 = true then (partP s (a.map altP) 0,true) else partsL s l
def ppL (p s : ByteArray) : List ByteArray × Bool:=if patB p = true then (if s.size ≤ 100 then partsL s (patA p) else ([],false)) else ([],false)
theorem partsL_any (s : ByteArray) (l : List (List Int)) : (partsL s l).2 = l.any fun a => fitP s (a.map altP) 0:=by
 induction l with
 | nil => rfl
 | cons a l ih =>
  simp only [partsL,List.any_cons]
  by_cases h : fitP s (a.map altP) 0 = true
  ·rw [if_pos h,h];rfl
  ·rw [if_neg h,Bool.eq_false_iff.2 h,Bool.false_or];exact ih
theorem l2fits_spec (p s : ByteArray) (hp : p.size ≤ 9223372036854775807) (hs : s.size ≤ 1048576) : Ev (fun k => spec_l2Fits.f k p s) ((partsL s (patA p)).2):=by
 obtain ⟨h1,h2⟩:=patA_len p
 rw [partsL_any]
 unfold spec_l2Fits.f
 refine ev_bind (alt_spec p hp) ?_
 generalize patA p = l at h1 h2
 have hrd : ∀ (i : Nat) (h : i < l.length),rd_L5 l (i : Int) = l[i]:=fun i h => getD_lt h
 refine up_ind l.length (fun i => Ev (fun k => spec_l2Fits.l0 k s l (l.length : Int) (i : Int)) ((l.drop i).any fun a => fitP s (a.map altP) 0)) ?_ ?_ 0 (by omega)
 ·rw [List.drop_length]
  exact ev_step (fun _ => spec_l2Fits.l0.eq_2 ..) (ev_neg (by omega) (ev_now _))
 ·intro i h ih
  refine ev_step (fun _ => spec_l2Fits.l0.eq_2 ..) (ev_pos (by omega) (ev_pos (by omega) (ev_pos (by omega) ?_)))
  rw [hrd i h,List.drop_eq_getElem_cons h,List.any_cons,w64n h (by omega)]
  refine ev_bind (rest_spec l[i] s (by have:=h1 _ (List.getElem_mem h);omega) hs) (ev_pos (by rw [rowP_len];omega) ?_)
  rw [show rdOf false (rowP s (l[i].map altP)) 0 = fitP s (l[i].map altP) 0 from row_rd (k:=0) (Nat.zero_le _)]
  refine ev_ite (fun hb => ?_) (fun hb => ?_)
  ·rw [hb,Bool.true_or];exact ev_now _
  ·rw [Bool.eq_false_iff.2 hb,Bool.false_or];exact ih
theorem parts_in (a : List Int) (s : ByteArray) (ha : a.length ≤ 1000) (hs : s.size ≤ 1048576) : ∀ (d m q : Nat) (o : List ByteArray),m + d = a.length → q ≤ s.size → o.length ≤ m → fitP s ((a.map altP).drop m) q = true → Ev (fun k => spec_l2Parts.l1 k s a o (q : Int) a (a.length : Int) (m : Int)) (o ++ partP s ((a.map altP).drop m) q,true):=by
 intro d
 induction d with
 | zero =>
  intro m q o hm hq ho hf
  refine ev_step (fun _ => spec_l2Parts.l1.eq_2 ..) (ev_neg (by omega) ?_)
  rw [List.drop_eq_nil_of_le (by simp;omega)]
  rw [show partP s [] q = [] from rfl,List.append_nil]
  exact ev_now _
 | succ d ih =>
  intro m q o hm hq ho hf
  have hml : m < a.length:=by omega
  have hil : m < (a.map altP).length:=by simpa using hml
  have hel : (a.map altP)[m] = altP a[m]:=by simp
  have e2 : wrap64 ((m : Int) + 1) = ((m + 1 : Nat) : Int):=w64n hml (by omega)
  refine ev_step (fun _ => spec_l2Parts.l1.eq_2 ..) (ev_pos (by omega) (ev_pos (by omega) (ev_pos (by omega) ?_)))
  rw [rd_at hml,e2]
  by_cases hc : a[m] = -1
  ·have hst : ((a.map altP)[m]).f2 = true:=by rw [hel,hc];rfl
   rw [fitP_star hil hst] at hf
   rw [partP_star hil hst]
   have hG : ((a.drop (m + 1)).map altP) = (a.map altP).drop (m + 1):=List.map_drop
   refine ev_pos hc (ev_pos (by omega) (ev_pos (by omega) ?_))
   rw [Int.toNat_natCast]
   refine ev_bind (rest_spec (a.drop (m + 1)) s (by rw [List.length_drop];omega) hs) ?_
   rw [hG]
   obtain ⟨n0,n1,n2⟩:=starF_nxt _ _ _ hf
   have key : ∀ (c n : Nat),n + c = s.size → q ≤ n → starF (fitP s ((a.map altP).drop (m + 1))) (s.size - n) n = true → nxtF (fitP s ((a.map altP).drop (m + 1))) (s.size - n) n = nxtF (fitP s ((a.map altP).drop (m + 1))) (s.size - q) q → Ev (fun k => spec_l2Parts.l2 k s a o (q : Int) (rowP s ((a.map altP).drop (m + 1))) (n : Int) a (a.length : Int) (m : Int)) (o ++ s.extract q (nxtF (fitP s ((a.map altP).drop (m + 1))) (s.size - q) q) :: partP s ((a.map altP).drop (m + 1)) (nxtF (fitP s ((a.map altP).drop (m + 1))) (s.size - q) q),true):=by
    intro c
    induction c with
    | zero =>
     intro n hn hqn hS hN
     have hb : fitP s ((a.map altP).drop (m + 1)) n = true:=by rw [starF_end (by omega)] at hS;exact hS
     have hN2 : nxtF (fitP s ((a.map altP).drop (m + 1))) (s.size - q) q = n:=by rw [← hN,show s.size - n = 0 by omega];rfl
     refine ev_step (fun _ => spec_l2Parts.l2.eq_2 ..) (ev_pos (by omega) (ev_pos (by rw [rowP_len];omega) ?_))
     rw [row_rd (by omega),hN2,e2]
     refine ev_pos hb (ev_pos (by omega) (ev_pos (by omega) (ev_pos (by omega) (ev_pos (by omega) ?_))))
     rw [Int.toNat_natCast,Int.toNat_natCast]
     have:=ih (m + 1) n (o ++ [s.extract q n]) (by omega) (by omega) (by simp;omega) hb
     rw [List.append_assoc] at this
     exact this
    | succ c ihc =>
     intro n hn hqn hS hN
     refine ev_step (fun _ => spec_l2Parts.l2.eq_2 ..) (ev_pos (by omega) (ev_pos (by rw [rowP_len];omega) ?_))
     rw [row_rd (by omega)]
     refine ev_ite (fun hb => ?_) (fun hb => ?_)
     ·have hN2 : nxtF (fitP s ((a.map altP).drop (m + 1))) (s.size - q) q = n:=by
       rw [← hN,show s.size - n = (s.size - (n + 1)) + 1 by omega];simp only [nxtF];rw [if_pos hb]
      rw [hN2,e2]
      refine ev_pos (by omega) (ev_pos (by omega) (ev_pos (by omega) (ev_pos (by omega) ?_)))
      rw [Int.toNat_natCast,Int.toNat_natCast]
      have:=ih (m + 1) n (o ++ [s.extract q n]) (by omega) (by omega) (by simp;omega) hb
      rw [List.append_assoc] at this
      exact this
     ·rw [w64n (show n < s.size by omega) (by omega)]
      refine ihc (n + 1) (by omega) (by omega) ?_ ?_
      ·rw [starF_on (by omega),Bool.eq_false_iff.2 hb,Bool.false_or] at hS;exact hS
      ·rw [← hN,show s.size - n = (s.size - (n + 1)) + 1 by omega];simp only [nxtF];rw [if_neg hb]
   exact key (s.size - q) q (by omega) (Nat.le_refl _) hf rfl
  ·have hst : ((a.map altP)[m]).f2 = false:=by rw [hel];exact altP_f2 hc
   rw [fitP_on hil hst] at hf
   simp only [Bool.and_eq_true,decide_eq_true_eq] at hf
   rw [partP_on hil hst,w64n hf.1 (by omega)]
   exact ev_neg hc (ih (m + 1) (q + 1) o (by omega) (by omega) (by omega) hf.2.2)
theorem l2parts_spec (p s : ByteArray) (hp : p.size ≤ 9223372036854775807) (hs : s.size ≤ 1048576) : Ev (fun k => spec_l2Parts.f k p s) (partsL s (patA p)):=by
 obtain ⟨h1,h2⟩:=patA_len p
 unfold spec_l2Parts.f
 refine ev_bind (alt_spec p hp) ?_
 generalize patA p = l at h1 h2
 have hrd : ∀ (i : Nat) (h : i < l.length),rd_L5 l (i : Int) = l[i]:=fun i h => getD_lt h
 refine up_ind l.length (fun i => Ev (fun k => spec_l2Parts.l0 k s l (l.length : Int) (i : Int)) (partsL s (l.drop i))) ?_ ?_ 0 (by omega)
 ·rw [List.drop_length]
  exact ev_step (fun _ => spec_l2Parts.l0.eq_2 ..) (ev_neg (by omega) (ev_now _))
 ·intro i h ih
  have hl:=h1 _ (List.getElem_mem h)
  refine ev_step (fun _ => spec_l2Parts.l0.eq_2 ..) (ev_pos (by omega) (ev_pos (by omega) (ev_pos (by omega) ?_)))
  rw [hrd i h,List.drop_eq_getElem_cons h,w64n h (by omega)]
  refine ev_bind (rest_spec l[i] s (by omega) hs) (ev_pos (by rw [rowP_len];omega) ?_)
  rw [show rdOf false (rowP s (l[i].map altP)) 0 = fitP s (l[i].map altP) 0 from row_rd (k:=0) (Nat.zero_le _)]
  simp only [partsL]
  refine ev_ite (fun hb => ?_) (fun hb => ?_)
  ·rw [if_pos hb]
   exact parts_in l[i] s (by omega) hs l[i].length 0 0 [] (by omega) (Nat.zero_le _) (Nat.le_refl _) hb
  ·rw [if_neg hb];exact ih
theorem pp_impl (p s : ByteArray) (hp : p.size ≤ 9223372036854775807) (hs : s.size ≤ 1048576) : Ev (fun k => impl_PatternParts.f k p s) (ppL p s):=by
 obtain ⟨h1,h2⟩:=patA_len p
 unfold impl_PatternParts.f ppL
 refine ev_bind (alt_impl p hp) (ev_ite (fun h => ?_) (fun h => ?_))
 ·rw [if_pos h]
  refine ev_step (fun _ => impl_PatternParts.j0.eq_2 ..) (ev_ite (fun h3 => ?_) (fun h3 => ?_))
  ·rw [if_neg (by have:=of_decide_eq_true h3;omega)];exact ev_now _
  ·have hz : s.size ≤ 100:=by
    rcases Nat.lt_or_ge 100 s.size with h4|h4
    ·exact absurd (decide_eq_true (by omega)) h3
    ·exact h4
   rw [if_pos hz]
   generalize patA p = l at h1 h2
   have hrd : ∀ (i : Nat) (h : i < l.length),rd_L8 (l.map (List.map altP)) (i : Int) = l[i].map altP:=fun i h => by
    show (l.map (List.map altP)).getD ((i : Int)).toNat _ = _
    rw [Int.toNat_natCast,List.getD_eq_getElem?_getD,List.getElem?_map,List.getElem?_eq_getElem h];rfl
   have hlen : (l.map (List.map altP)).length = l.length:=by simp
   refine up_ind l.length (fun i => Ev (fun k => impl_PatternParts.l0 k s (l.map (List.map altP)) ((l.map (List.map altP)).length : Int) (i : Int)) (partsL s (l.drop i))) ?_ ?_ 0 (by omega)
   ·rw [List.drop_length,hlen]
    exact ev_step (fun _ => impl_PatternParts.l0.eq_2 ..) (ev_neg (by omega) (ev_now _))
   ·intro i h ih
    have hl:=h1 _ (List.getElem_mem h)
    refine ev_step (fun _ => impl_PatternParts.l0.eq_2 ..) (ev_pos (by omega) (ev_pos (by omega) (ev_pos (by omega) ?_)))
    rw [hrd i h,List.drop_eq_getElem_cons h,w64n h (by omega)]
    simp only [partsL]
    have hp : impl_parts.f (l[i].map altP) s = if fitP s (l[i].map altP) 0 = true then some (partP s (l[i].map altP) 0,true) else some ([],false):=by
     unfold impl_parts.f
     rw [if_pos (by simp;omega),if_pos (by omega)]
    by_cases hb : fitP s (l[i].map altP) 0 = true
    ·rw [if_pos hb] at hp ⊢
     exact ev_bind (ev_eq hp) (ev_pos rfl (ev_now _))
    ·rw [if_neg hb] at hp ⊢
     exact ev_bind (ev_eq hp) (ev_neg (by decide) ih)
 ·rw [if_neg h]
  exact ev_step (fun _ => impl_PatternParts.j0.eq_2 ..) (ev_pos rfl (ev_now _))
theorem pf_impl (p s : ByteArray) (hp : p.size ≤ 9223372036854775807) (hs : s.size ≤ 1048576) : Ev (fun k => impl_PatternFits.f k p s) (ppL p s).2:=by
 unfold impl_PatternFits.f
 exact ev_bind (pp_impl p s hp hs) (ev_now _)
theorem partP_len (s : ByteArray) : ∀ (l : List S108) (i : Nat),(partP s l i).length ≤ l.length:=by
 intro l
 induction l with
 | nil => intro i;exact Nat.le_refl _
 | cons x l ih =>
  intro i
  simp only [partP]
  split
  ·simp only [List.length_cons]
   have:=ih (nxtF (fitP s l) (s.size - i) i)
   omega
  ·have:=ih (i + 1)
   simp only [List.length_cons]
   omega
theorem partsL_len (s : ByteArray) (l : List (List Int)) (h : ∀ x ∈ l,x.length ≤ 100) : (partsL s l).1.length ≤ 100:=by
 induction l with
 | nil => simp [partsL]
 | cons a l ih =>
  simp only [partsL]
  split
  ·have h1:=partP_len s (a.map altP) 0
   have h2:=h a (List.mem_cons_self ..)
   rw [List.length_map] at h1
   show (partP s (a.map altP) 0).length ≤ 100
   omega
  ·exact ih (fun x hx => h x (List.mem_cons_of_mem _ hx))
end Go.Proofs.YtacaelfdmlegdaaGreatDoor.U
namespace Go.Proofs.YtacaelfdmlegdaaGreatDoor.U
open Go.RowKit Go.Proofs.YtacaelfdmlegdaaGreatDoor.Pr Go.Proofs.YtacaelfdmlegdaaGreatDoorW.PrintWords Go.Proofs.YtacaelfdmlegdaaGreatDoorW.PrintLast Go.Proofs.YtacaelfdmlegdaaGreatDoorW.PrintMore
set_option linter.unusedVariables false
set_option linter.unusedSimpArgs false
def ofL (n : ByteArray) : List S53 → ByteArray
 | [] => ⟨#[]⟩
 | x :: xs => if Y x.f0 = Y n then x.f1 else ofL n xs
end Go.Proofs.YtacaelfdmlegdaaGreatDoor.U
namespace Go.Proofs.YtacaelfdmlegdaaGreatDoor.U
open Go.RowKit Go.Proofs.YtacaelfdmlegdaaGreatDoor.Pr Go.Proofs.YtacaelfdmlegdaaGreatDoorW.PrintWords Go.Proofs.YtacaelfdmlegdaaGreatDoorW.PrintLast Go.Proofs.YtacaelfdmlegdaaGreatDoorW.PrintMore
set_option linter.unusedVariables false
set_option linter.unusedSimpArgs false
theorem cmpL_neg : ∀ a b : List UInt8,cmpL b a = - cmpL a b
 | [],[] => rfl
 | [],_ :: _ => rfl
 | _ :: _,[] => rfl
 | a :: l,b :: m => by
  simp only [cmpL]
  by_cases e : (a.toNat : Int) = (b.toNat : Int)
  ·rw [if_pos e,if_pos e.symm]
   exact cmpL_neg l m
  ·rw [if_neg e,if_neg (fun h => e h.symm)]
   by_cases h : (a.toNat : Int) < (b.toNat : Int)
   ·rw [if_pos h,if_neg (by omega)]
    rfl
   ·rw [if_neg h,if_pos (by omega)]
end Go.Proofs.YtacaelfdmlegdaaGreatDoor.U
namespace Go.Proofs.YtacaelfdmlegdaaGreatDoor.U
open Go.RowKit Go.Proofs.YtacaelfdmlegdaaGreatDoor.Pr Go.Proofs.YtacaelfdmlegdaaGreatDoorW.PrintWords Go.Proofs.YtacaelfdmlegdaaGreatDoorW.PrintLast Go.Proofs.YtacaelfdmlegdaaGreatDoorW.PrintMore
set_option linter.unusedVariables false
set_option linter.unusedSimpArgs false
theorem of_impl (l : List S53) (hl : l.length ≤ 9223372036854775807) (n : ByteArray) : Ev (fun k => impl_valueOf.f k l n) (ofL n l):=by
 have hrd : ∀ (i : Nat) (h : i < l.length),rd_T53 l (i : Int) = l[i]:=fun i h => getD_lt h
 refine up_ind l.length (fun i => Ev (fun k => impl_valueOf.l0 k n l (l.length : Int) (i : Int)) (ofL n (l.drop i))) ?_ ?_ 0 (by omega)
 ·rw [List.drop_length]
  exact ev_step (fun _ => impl_valueOf.l0.eq_2 ..) (ev_neg (by omega) (ev_now _))
 ·intro i h ih
  refine ev_step (fun _ => impl_valueOf.l0.eq_2 ..) (ev_pos (by omega) (ev_pos (by omega) (ev_pos (by omega) ?_)))
  rw [hrd i h,List.drop_eq_getElem_cons h,w64n h hl,Y_eq,Y_eq]
  simp only [ofL]
  refine ev_ite (fun h1 => ?_) (fun h1 => ?_)
  ·rw [if_pos h1]
   exact ev_now _
  ·rw [if_neg h1]
   exact ih
end Go.Proofs.YtacaelfdmlegdaaGreatDoor.U
namespace Go.Proofs.YtacaelfdmlegdaaGreatDoor.U
open Go.RowKit Go.Proofs.YtacaelfdmlegdaaGreatDoor.Pr Go.Proofs.YtacaelfdmlegdaaGreatDoorW.PrintWords Go.Proofs.YtacaelfdmlegdaaGreatDoorW.PrintLast Go.Proofs.YtacaelfdmlegdaaGreatDoorW.PrintMore
set_option linter.unusedVariables false
set_option linter.unusedSimpArgs false
theorem of_spec (l : List S53) (hl : l.length ≤ 9223372036854775807) (n : ByteArray) : Ev (fun k => spec_l2Of.f k l n) (ofL n l):=by
 have hrd : ∀ (i : Nat) (h : i < l.length),rd_T53 l (i : Int) = l[i]:=fun i h => getD_lt h
 refine up_ind l.length (fun i => Ev (fun k => spec_l2Of.l0 k n l (l.length : Int) (i : Int)) (ofL n (l.drop i))) ?_ ?_ 0 (by omega)
 ·rw [List.drop_length]
  exact ev_step (fun _ => spec_l2Of.l0.eq_2 ..) (ev_neg (by omega) (ev_now _))
 ·intro i h ih
  refine ev_step (fun _ => spec_l2Of.l0.eq_2 ..) (ev_pos (by omega) (ev_pos (by omega) (ev_pos (by omega) ?_)))
  rw [hrd i h,List.drop_eq_getElem_cons h,w64n h hl,Y_eq,Y_eq]
  simp only [ofL]
  refine ev_ite (fun h1 => ?_) (fun h1 => ?_)
  ·rw [if_pos h1]
   exact ev_now _
  ·rw [if_neg h1]
   exact ih
end Go.Proofs.YtacaelfdmlegdaaGreatDoor.U
namespace Go.Proofs.YtacaelfdmlegdaaGreatDoor.U
open Go.RowKit Go.Proofs.YtacaelfdmlegdaaGreatDoor.Pr Go.Proofs.YtacaelfdmlegdaaGreatDoorW.PrintWords Go.Proofs.YtacaelfdmlegdaaGreatDoorW.PrintLast Go.Proofs.YtacaelfdmlegdaaGreatDoorW.PrintMore
set_option linter.unusedVariables false
set_option linter.unusedSimpArgs false
def withL (n v : ByteArray) : List S53 → Bool → List S53 → List S53
 | acc,p,[] => if p = true then acc else acc ++ [⟨n,v⟩]
 | acc,p,x :: xs =>
  if (!p && !(Op.bytesLess x.f0.toList n.toList)) = true then (if x.f0.toList = n.toList then withL n v (acc ++ [⟨n,v⟩]) true xs else withL n v (acc ++ [⟨n,v⟩] ++ [x]) true xs)
  else (if x.f0.toList = n.toList then withL n v acc p xs else withL n v (acc ++ [x]) p xs)
theorem withL_len (n v : ByteArray) : ∀ (l acc : List S53) (p : Bool),(withL n v acc p l).length ≤ acc.length + 2 * l.length + 1:=by
 intro l
 induction l with
 | nil => intro acc p;simp only [withL];split <;> simp
 | cons x xs ih =>
  intro acc p
  simp only [withL]
  split
  ·split
   ·have:=ih (acc ++ [⟨n,v⟩]) true;simp only [List.length_append,List.length_cons,List.length_nil] at this ⊢;omega
   ·have:=ih (acc ++ [⟨n,v⟩] ++ [x]) true;simp only [List.length_append,List.length_cons,List.length_nil] at this ⊢;omega
  ·split
   ·have:=ih acc p;simp only [List.length_cons];omega
   ·have:=ih (acc ++ [x]) p;simp only [List.length_append,List.length_cons,List.length_nil] at this ⊢;omega
theorem withL_mem (n v : ByteArray) (q : S53 → Prop) (hn : q ⟨n,v⟩) : ∀ (l acc : List S53) (p : Bool),(∀ x ∈ acc,q x) → (∀ x ∈ l,q x) → ∀ x ∈ withL n v acc p l,q x:=by
 have ap : ∀ (acc : List S53) (y : S53),(∀ x ∈ acc,q x) → q y → ∀ x ∈ acc ++ [y],q x:=by
  intro acc y h1 h2 x hx
  rcases List.mem_append.1 hx with h|h
  ·exact h1 x h
  ·rw [List.mem_singleton.1 h];exact h2
 intro l
 induction l with
 | nil =>
  intro acc p h1 _
  simp only [withL]
  split
  ·exact h1
  ·exact ap _ _ h1 hn
 | cons y ys ih =>
  intro acc p h1 h2
  have hy:=h2 y (List.mem_cons_self ..)
  have h3 : ∀ x ∈ ys,q x:=fun x hx => h2 x (List.mem_cons_of_mem _ hx)
  simp only [withL]
  split
  ·split
   ·exact ih _ _ (ap _ _ h1 hn) h3
   ·exact ih _ _ (ap _ _ (ap _ _ h1 hn) hy) h3
  ·split
   ·exact ih _ _ h1 h3
   ·exact ih _ _ (ap _ _ h1 hy) h3
theorem ev_ite2 {α : Type} {c : Prop} [d1 : Decidable c] [d2 : Decidable c] {f g : Nat → Option α} {a b : α} (h1 : c → Ev f a) (h2 : ¬ c → Ev g b) : Ev (fun k => if c then f k else g k) (if c then a else b):=by
 by_cases h : c
 ·rw [if_pos h];exact ev_pos h (h1 h)
 ·rw [if_neg h];exact ev_neg h (h2 h)
theorem with_impl (l : List S53) (hl : l.length ≤ 1048576) (n v : ByteArray) (p : Bool) : Ev (fun k => impl_with.l0 k n v [] p l (l.length : Int) 0) (withL n v [] p l):=by
 have hrd : ∀ (i : Nat) (h : i < l.length),rd_T53 l (i : Int) = l[i]:=fun i h => getD_lt h
 refine up_ind l.length (fun i => ∀ (acc : List S53) (p : Bool),acc.length + 2 * (l.length - i) ≤ 4000000 → Ev (fun k => impl_with.l0 k n v acc p l (l.length : Int) (i : Int)) (withL n v acc p (l.drop i))) ?_ ?_ 0 (by omega) [] p (by simp;omega)
 ·intro acc p hb
  rw [List.drop_length]
  refine ev_step (fun _ => impl_with.l0.eq_2 ..) (ev_neg (by omega) ?_)
  simp only [withL]
  exact ev_ite2 (fun _ => ev_now _) (fun _ => ev_pos (by omega) (ev_now _))
 ·intro i h ih acc p hb
  have wi : wrap64 ((i : Int) + 1) = ((i + 1 : Nat) : Int):=w64n h (by omega)
  refine ev_step (fun _ => impl_with.l0.eq_2 ..) (ev_pos (by omega) (ev_pos (by omega) (ev_pos (by omega) ?_)))
  rw [hrd i h,List.drop_eq_getElem_cons h]
  simp only [withL]
  cases p with
  | true =>
   refine ev_pos rfl (ev_step (fun _ => impl_with.j1.eq_2 ..) (ev_neg (by decide) ?_))
   rw [if_neg (by simp),wi]
   exact ev_ite2 (fun _ => ih acc true (by omega)) (fun _ => ev_pos (by omega) (ih _ true (by simp only [List.length_append,List.length_cons,List.length_nil];omega)))
  | false =>
   refine ev_neg (by decide) (ev_step (fun _ => impl_with.j1.eq_2 ..) ?_)
   rw [Bool.not_false,Bool.true_and,wi]
   refine ev_ite2 (fun _ => ?_) (fun _ => ?_)
   ·refine ev_pos (by omega) (ev_bind (ev_now _) ?_)
    exact ev_ite2 (fun _ => ih _ true (by simp only [List.length_append,List.length_cons,List.length_nil];omega)) (fun _ => ev_pos (by simp only [List.length_append,List.length_cons,List.length_nil];omega) (ih _ true (by simp only [List.length_append,List.length_cons,List.length_nil];omega)))
   ·exact ev_ite2 (fun _ => ih acc false (by omega)) (fun _ => ev_pos (by omega) (ih _ false (by simp only [List.length_append,List.length_cons,List.length_nil];omega)))
theorem notless_cmp (a b : ByteArray) : decide (cmpL (Y a) (Y b) ≤ 0) = !(Op.bytesLess b.toList a.toList):=by
 rw [Y_eq,Y_eq,less_cmp,cmpL_neg (Y a) (Y b)]
 by_cases h : cmpL (Y a) (Y b) ≤ 0
 ·rw [decide_eq_true h,decide_eq_false (by omega)];rfl
 ·rw [decide_eq_false h,decide_eq_true (by omega)];rfl
theorem with_spec (l : List S53) (hf : fitL l) (hl : l.length ≤ 1048576) (n v : ByteArray) (hn : n.size ≤ 9223372036854775807) (p : Bool) : Ev (fun k => spec_l2With.l0 k n v [] p l (l.length : Int) 0) (withL n v [] p l):=by
 have hrd : ∀ (i : Nat) (h : i < l.length),rd_T53 l (i : Int) = l[i]:=fun i h => getD_lt h
 refine up_ind l.length (fun i => ∀ (acc : List S53) (p : Bool),acc.length + 2 * (l.length - i) ≤ 4000000 → Ev (fun k => spec_l2With.l0 k n v acc p l (l.length : Int) (i : Int)) (withL n v acc p (l.drop i))) ?_ ?_ 0 (by omega) [] p (by simp;omega)
 ·intro acc p hb
  rw [List.drop_length]
  refine ev_step (fun _ => spec_l2With.l0.eq_2 ..) (ev_neg (by omega) ?_)
  simp only [withL]
  exact ev_ite2 (fun _ => ev_now _) (fun _ => ev_pos (by omega) (ev_now _))
 ·intro i h ih acc p hb
  have wi : wrap64 ((i : Int) + 1) = ((i + 1 : Nat) : Int):=w64n h (by omega)
  refine ev_step (fun _ => spec_l2With.l0.eq_2 ..) (ev_pos (by omega) (ev_pos (by omega) (ev_pos (by omega) ?_)))
  rw [hrd i h,List.drop_eq_getElem_cons h]
  simp only [withL]
  cases p with
  | true =>
   refine ev_pos rfl (ev_step (fun _ => spec_l2With.j1.eq_2 ..) (ev_neg (by decide) ?_))
   rw [if_neg (by simp),wi]
   exact ev_ite2 (fun _ => ih acc true (by omega)) (fun _ => ev_pos (by omega) (ih _ true (by simp only [List.length_append,List.length_cons,List.length_nil];omega)))
  | false =>
   refine ev_neg (by decide) (ev_bind (cmp_spec _ _ hn (hf.2 l[i] (List.getElem_mem h)).1) (ev_step (fun _ => spec_l2With.j1.eq_2 ..) ?_))
   rw [notless_cmp,Bool.not_false,Bool.true_and,wi]
   refine ev_ite2 (fun _ => ?_) (fun _ => ?_)
   ·refine ev_pos (by omega) (ev_bind (ev_now _) ?_)
    exact ev_ite2 (fun _ => ih _ true (by simp only [List.length_append,List.length_cons,List.length_nil];omega)) (fun _ => ev_pos (by simp only [List.length_append,List.length_cons,List.length_nil];omega) (ih _ true (by simp only [List.length_append,List.length_cons,List.length_nil];omega)))
   ·exact ev_ite2 (fun _ => ih acc false (by omega)) (fun _ => ev_pos (by omega) (ih _ false (by simp only [List.length_append,List.length_cons,List.length_nil];omega)))
end Go.Proofs.YtacaelfdmlegdaaGreatDoor.U
namespace Go.Proofs.YtacaelfdmlegdaaGreatDoor.U
open Go.RowKit Go.Proofs.YtacaelfdmlegdaaGreatDoor.Pr Go.Proofs.YtacaelfdmlegdaaGreatDoorW.PrintWords Go.Proofs.YtacaelfdmlegdaaGreatDoorW.PrintLast Go.Proofs.YtacaelfdmlegdaaGreatDoorW.PrintMore
set_option linter.unusedVariables false
set_option linter.unusedSimpArgs false
theorem rd_le (ps : List ByteArray) (hp : ∀ x ∈ ps,x.size ≤ 1048576) (j : Int) : (rdOf ByteArray.empty ps j).size ≤ 1048576:=by
 unfold rdOf
 rw [List.getD_eq_getElem?_getD]
 cases h : ps[j.toNat]? with
 | none => exact Nat.zero_le _
 | some x => exact hp x (List.mem_of_getElem? h)
theorem fill_run (s : ByteArray) (ps : List ByteArray) (hs : s.size ≤ 100) (hp : ∀ x ∈ ps,x.size ≤ 1048576) : ∀ (K i : Nat) (acc : ByteArray),impl_isFilling.l0 K s (i : Int) = some true → acc.size ≤ 1048576 * i → ∃ r,Ev (fun k => impl_FillValue.l0 k s ps acc (i : Int)) r ∧ Ev (fun k => spec_l4Fill.l0 k s ps acc (i : Int)) r:=by
 intro K
 induction K with
 | zero => intro i acc h _;cases h
 | succ K ih =>
  intro i acc h ha
  simp only [impl_isFilling.l0] at h
  by_cases hi : (i : Int) < (s.size : Int)
  ·have e1 : wrap64 ((i : Int) + 1) = ((i + 1 : Nat) : Int):=by rw [w64 (by omega) (by omega)];omega
   have e2 : wrap64 (((i + 1 : Nat) : Int) + 1) = ((i + 2 : Nat) : Int):=by rw [w64 (by omega) (by omega)];omega
   rw [if_pos hi,if_pos (show 0 ≤ (i : Int) from by omega),e1,e2] at h
   by_cases c : bt s (i : Int) = 36
   ·rw [if_pos c] at h
    by_cases c1 : ((i + 1 : Nat) : Int) = (s.size : Int)
    ·rw [if_pos c1] at h;cases h
    rw [if_neg c1,if_pos (show 0 ≤ ((i + 1 : Nat) : Int) from by omega),if_pos (show ((i + 1 : Nat) : Int) < (s.size : Int) from by omega)] at h
    by_cases d : bt s ((i + 1 : Nat) : Int) = 36
    ·rw [if_pos d] at h
     obtain ⟨r,a,b⟩:=ih (i + 2) (acc ++ ⟨#[36]⟩) h (by rw [ByteArray.size_append];show acc.size + 1 ≤ _;omega)
     refine ⟨r,ev_step (fun _ => impl_FillValue.l0.eq_2 ..) (ev_pos hi (ev_pos (by omega) (ev_pos c ?_))),ev_step (fun _ => spec_l4Fill.l0.eq_2 ..) (ev_pos hi (ev_pos (by omega) (ev_pos c ?_)))⟩
     ·rw [e1,e2];exact ev_pos (by omega) (ev_pos (by omega) (ev_pos d (ev_pos (by omega) a)))
     ·rw [e1,e2];exact ev_pos (by omega) (ev_pos (by omega) (ev_pos d (ev_pos (by omega) b)))
    ·rw [if_neg d] at h
     by_cases d1 : bt s ((i + 1 : Nat) : Int) < 49
     ·rw [if_pos d1] at h;cases h
     rw [if_neg d1] at h
     by_cases d2 : bt s ((i + 1 : Nat) : Int) > 57
     ·rw [if_pos d2] at h;cases h
     rw [if_neg d2] at h
     by_cases dj : (bt s ((i + 1 : Nat) : Int) - 49) % 256 < (ps.length : Int)
     ·have hr:=rd_le ps hp ((bt s ((i + 1 : Nat) : Int) - 49) % 256)
      obtain ⟨r,a,b⟩:=ih (i + 2) (acc ++ rdOf ByteArray.empty ps ((bt s ((i + 1 : Nat) : Int) - 49) % 256)) h (by rw [ByteArray.size_append];omega)
      refine ⟨r,ev_step (fun _ => impl_FillValue.l0.eq_2 ..) (ev_pos hi (ev_pos (by omega) (ev_pos c ?_))),ev_step (fun _ => spec_l4Fill.l0.eq_2 ..) (ev_pos hi (ev_pos (by omega) (ev_pos c ?_)))⟩
      ·rw [e1,e2];exact ev_pos (by omega) (ev_pos (by omega) (ev_neg d (ev_pos dj (ev_pos (by omega) (ev_pos (by omega) a)))))
      ·rw [e1,e2];exact ev_pos (by omega) (ev_pos (by omega) (ev_neg d (ev_pos dj (ev_pos (by omega) (ev_pos (by omega) b)))))
     ·obtain ⟨r,a,b⟩:=ih (i + 2) acc h (by omega)
      refine ⟨r,ev_step (fun _ => impl_FillValue.l0.eq_2 ..) (ev_pos hi (ev_pos (by omega) (ev_pos c ?_))),ev_step (fun _ => spec_l4Fill.l0.eq_2 ..) (ev_pos hi (ev_pos (by omega) (ev_pos c ?_)))⟩
      ·rw [e1,e2];exact ev_pos (by omega) (ev_pos (by omega) (ev_neg d (ev_neg dj a)))
      ·rw [e1,e2];exact ev_pos (by omega) (ev_pos (by omega) (ev_neg d (ev_neg dj b)))
   ·rw [if_neg c] at h
    have hz : (s.extract i (i + 1)).size = 1:=by rw [ByteArray.size_extract];omega
    obtain ⟨r,a,b⟩:=ih (i + 1) (acc ++ s.extract i (i + 1)) h (by rw [ByteArray.size_append,hz];omega)
    refine ⟨r,ev_step (fun _ => impl_FillValue.l0.eq_2 ..) (ev_pos hi (ev_pos (by omega) (ev_neg c ?_))),ev_step (fun _ => spec_l4Fill.l0.eq_2 ..) (ev_pos hi (ev_pos (by omega) (ev_neg c ?_)))⟩
    ·rw [e1,Int.toNat_natCast];exact ev_pos (by omega) a
    ·rw [e1,Int.toNat_natCast,Int.toNat_natCast];exact ev_pos (by omega) (ev_pos (by omega) (ev_pos (by omega) b))
  ·exact ⟨acc,ev_step (fun _ => impl_FillValue.l0.eq_2 ..) (ev_neg hi (ev_now _)),ev_step (fun _ => spec_l4Fill.l0.eq_2 ..) (ev_neg hi (ev_now _))⟩
end Go.Proofs.YtacaelfdmlegdaaGreatDoor.U
namespace Go.Proofs.YtacaelfdmlegdaaGreatDoor.U
open Go.RowKit Go.Proofs.YtacaelfdmlegdaaGreatDoor.Pr Go.Proofs.YtacaelfdmlegdaaGreatDoorW.PrintWords Go.Proofs.YtacaelfdmlegdaaGreatDoorW.PrintLast Go.Proofs.YtacaelfdmlegdaaGreatDoorW.PrintMore
set_option linter.unusedVariables false
set_option linter.unusedSimpArgs false
theorem mix_same (k : Nat) : ∀ (x : Int) (xs : List Int) (n i : Int),0 ≤ x → x < 18446744073709551616 → spec_Mix.l0 k x xs n i = impl_Mix.l0 k x xs n i:=by
 induction k with
 | zero => intros;rfl
 | succ k ih =>
  intro x xs n i h0 h1
  simp only [spec_Mix.l0,impl_Mix.l0]
  split
  ·split
   ·split
    ·exact ih _ _ _ _ (bu64 _ _ _).1 (bu64 _ _ _).2
    ·rfl
   ·rfl
  ·rw [Int.tdiv_eq_ediv_of_nonneg h0,wu64]
   congr 2
   omega
theorem mix_ends (xs : List Int) (hn : xs.length ≤ 1048576) (d : Nat) : ∀ (k : Nat) (x : Int) (i : Nat),i + d = xs.length → d < k → ∃ r,impl_Mix.l0 k x xs (xs.length : Int) (i : Int) = some r:=by
 induction d with
 | zero =>
  intro k x i h1 h2
  obtain ⟨k,rfl⟩ : ∃ m,k = m + 1:=⟨k - 1,by omega⟩
  simp only [impl_Mix.l0]
  rw [if_neg (by omega)]
  exact ⟨_,rfl⟩
 | succ d ih =>
  intro k x i h1 h2
  obtain ⟨k,rfl⟩ : ∃ m,k = m + 1:=⟨k - 1,by omega⟩
  simp only [impl_Mix.l0]
  rw [if_pos (by omega),if_pos (by omega),if_pos (by omega),w64 (by omega) (by omega),show ((i : Int) + 1) = ((i + 1 : Nat) : Int) from by omega]
  exact ih k _ (i + 1) (by omega) (by omega)
theorem mix_both (l : List Int) (hl : l.length ≤ 1048576) : ∃ r,Ev (fun k => impl_Mix.f k l) r ∧ Ev (fun k => spec_Mix.f k l) r:=by
 obtain ⟨r,hr⟩:=mix_ends l hl l.length (l.length + 1) 1469598103 0 (by omega) (by omega)
 have e1 : Ev (fun k => impl_Mix.f k l) r:=Ev.of (impl_Mix.mono l) (k:=l.length + 1) hr
 exact ⟨r,e1,Ev.congr (fun k => mix_same k _ _ _ _ (by omega) (by omega)) e1⟩
end Go.Proofs.YtacaelfdmlegdaaGreatDoor.U
namespace Go.Proofs.YtacaelfdmlegdaaGreatDoor.U
open Go.RowKit Go.Proofs.YtacaelfdmlegdaaGreatDoor.Pr Go.Proofs.YtacaelfdmlegdaaGreatDoorW.PrintWords Go.Proofs.YtacaelfdmlegdaaGreatDoorW.PrintLast Go.Proofs.YtacaelfdmlegdaaGreatDoorW.PrintMore
set_option linter.unusedVariables false
set_option linter.unusedSimpArgs false
theorem filt_at (P : S53 → Option Bool) (p : S53 → Bool) (l : List S53) (hl : l.length ≤ 1048576) (h : ∀ x ∈ l,P x = some (p x)) : ∀ (d k i : Nat) (acc : List S53),i + d = l.length → d < k → acc.length ≤ i → impl_Label_71.l0 P l k acc (i : Int) = some (acc ++ (l.drop i).filter p):=by
 have hrd : ∀ (i : Nat) (h : i < l.length),rd_T53 l (i : Int) = l[i]:=fun i h => getD_lt h
 intro d
 induction d with
 | zero =>
  intro k i acc h1 h2 h3
  obtain ⟨k,rfl⟩ : ∃ m,k = m + 1:=⟨k - 1,by omega⟩
  simp only [impl_Label_71.l0]
  rw [if_neg (by omega),List.drop_eq_nil_of_le (by omega),List.filter_nil,List.append_nil]
 | succ d ih =>
  intro k i acc h1 h2 h3
  obtain ⟨k,rfl⟩ : ∃ m,k = m + 1:=⟨k - 1,by omega⟩
  have hi : i < l.length:=by omega
  have hp : P (⟨l[i].f0,l[i].f1⟩ : S53) = some (p l[i]):=h l[i] (List.getElem_mem hi)
  simp only [impl_Label_71.l0]
  rw [if_pos (by omega),if_pos (by omega),hrd i hi,hp,Option.bind_some,List.drop_eq_getElem_cons hi,w64n hi (by omega)]
  by_cases hq : p l[i] = true
  ·rw [if_pos hq,if_pos (by omega),List.filter_cons_of_pos hq,ih k (i + 1) _ (by omega) (by omega) (by rw [List.length_append,List.length_singleton];omega),List.append_assoc]
   rfl
  ·rw [if_neg hq,List.filter_cons_of_neg hq]
   exact ih k (i + 1) acc (by omega) (by omega) (by omega)
theorem ev_all {α : Type} (P : Nat → α → Option Bool) (p : α → Bool) : ∀ l : List α,(∀ x ∈ l,Ev (fun k => P k x) (p x)) → ∃ K,∀ k,K ≤ k → ∀ x ∈ l,P k x = some (p x):=by
 intro l
 induction l with
 | nil => intro _;exact ⟨0,fun _ _ _ h => by cases h⟩
 | cons y l ih =>
  intro h
  obtain ⟨K,h1⟩:=ih (fun x hx => h x (List.mem_cons_of_mem _ hx))
  obtain ⟨K',h2⟩:=h y (List.mem_cons_self ..)
  refine ⟨max K K',fun k hk x hx => ?_⟩
  rcases List.mem_cons.1 hx with rfl|hx
  ·exact h2 k (by omega)
  ·exact h1 k (by omega) x hx
theorem filt (P : Nat → S53 → Option Bool) (p : S53 → Bool) (l : List S53) (hl : l.length ≤ 1048576) (h : ∀ x ∈ l,Ev (fun k => P k x) (p x)) : Ev (fun k => impl_Label_71.f k (P k) l) (l.filter p):=by
 obtain ⟨K,hK⟩:=ev_all P p l h
 refine ⟨max K (l.length + 1),fun k hk => ?_⟩
 exact filt_at (P k) p l hl (hK k (by omega)) l.length k 0 [] (by omega) (by omega) (by simp)
end Go.Proofs.YtacaelfdmlegdaaGreatDoor.U
namespace Go.Proofs.YtacaelfdmlegdaaGreatDoor.U
open Go.RowKit Go.Proofs.YtacaelfdmlegdaaGreatDoor.Pr Go.Proofs.YtacaelfdmlegdaaGreatDoorW.PrintWords Go.Proofs.YtacaelfdmlegdaaGreatDoorW.PrintLast Go.Proofs.YtacaelfdmlegdaaGreatDoorW.PrintMore
set_option linter.unusedVariables false
set_option linter.unusedSimpArgs false
theorem nd_le (u : Nat) : Lib.nDigits u ≤ u + 1:=by
 induction u using Nat.strongRecOn with
 | _ u ih =>
  rw [Lib.nDigits]
  split
  ·omega
  ·have:=ih (u / 10) (by omega)
   omega
theorem itoa_len (n : Int) (h0 : 0 ≤ n) (h1 : n ≤ 1000) : (Lib.itoa n).length ≤ 1001:=by
 unfold Lib.itoa
 rw [if_neg (by omega),Lib.decDigits_length]
 have:=nd_le n.toNat
 omega
theorem num_l : ∀ (n : Nat) (acc : List UInt8),n ≤ 4611686018427387904 → acc.length + n ≤ 4611686018427387904 → Ev (fun k => spec_l2Num.l0 k (n : Int) (bs acc) false) (bs ((if n = 0 then [] else Lib.decDigits n) ++ acc)):=by
 intro n
 induction n using Nat.strongRecOn with
 | _ n ih =>
  intro acc hn ha
  by_cases h0 : n = 0
  ·subst h0
   rw [if_pos rfl]
   exact ev_step (fun _ => spec_l2Num.l0.eq_2 ..) (ev_pos rfl (ev_neg (by decide) (ev_now _)))
  ·have hm : Int.tmod (n : Int) 10 = ((n % 10 : Nat) : Int):=by rw [Int.tmod_eq_emod_of_nonneg (by omega)];omega
   have hd : Int.tdiv (n : Int) 10 = ((n / 10 : Nat) : Int):=by rw [Int.tdiv_eq_ediv_of_nonneg (by omega)];omega
   have hl : n % 10 < 10:=Nat.mod_lt _ (by decide)
   have hb : ([(wrap64 (48 + ((n % 10 : Nat) : Int))) % 256] : List Int) = ints [UInt8.ofNat (48 + n % 10)]:=by
    unfold ints
    have ht : (UInt8.ofNat (48 + n % 10)).toNat = 48 + n % 10:=by first|(rw [UInt8.toNat_ofNat'];omega)|(simp;omega)
    rw [w64 (by omega) (by omega),List.map_cons,List.map_nil,ht]
    congr 1
    omega
   refine ev_step (fun _ => spec_l2Num.l0.eq_2 ..) (ev_neg (by omega) (ev_neg (by rw [hm];omega) ?_))
   rw [hm,hb,hd]
   refine ev_some ?_
   rw [strOf_ints]
   refine ev_pos (by rw [bs_size,bs_size,List.length_singleton];omega) ?_
   rw [bs_app,w64 (by omega) (by omega)]
   have:=ih (n / 10) (by omega) ([UInt8.ofNat (48 + n % 10)] ++ acc) (by omega) (by rw [List.length_append,List.length_singleton];omega)
   rw [if_neg h0]
   rw [show Lib.decDigits n = (if n / 10 = 0 then [] else Lib.decDigits (n / 10)) ++ [UInt8.ofNat (48 + n % 10)] from by
    rw [Lib.decDigits]
    split
    ·rw [if_pos (by omega),show n % 10 = n from by omega];rfl
    ·rw [if_neg (by omega)]]
   rw [List.append_assoc]
   exact this
theorem num_spec (n : Int) (h0 : 0 ≤ n) (h1 : n ≤ 1000) : Ev (fun k => spec_l2Num.f k n) (bs (Lib.itoa n)):=by
 obtain ⟨m,rfl⟩:=Int.eq_ofNat_of_zero_le h0
 unfold spec_l2Num.f Lib.itoa
 rw [if_neg (show ¬ ((m : Nat) : Int) < 0 by omega),Int.toNat_natCast]
 refine ev_ite (fun h => ?_) (fun h => ?_)
 ·obtain rfl : m = 0:=by omega
  rw [Lib.decDigits_one (by decide)]
  exact ev_now _
 ·have:=num_l m [] (by omega) (by rw [List.length_nil];omega)
  rw [if_neg (by omega),List.append_nil] at this
  rw [decide_eq_false (by omega)]
  exact this
theorem num_impl (n : Int) (h0 : 0 ≤ n) (h1 : n ≤ 1000) : impl_digitsOf.f n = some (bs (Lib.itoa n)):=by
 unfold impl_digitsOf.f strconv_Itoa_92.f
 rw [if_pos ⟨by omega,by omega⟩]
 rfl
section
variable (a : Int) (fr : List ByteArray) (sep pat tg val : ByteArray) (md : Int) (an p1 p2 tn vf : Bool)
theorem b8 (b : Bool) (h : sJ8 a val md vf b = true) : 0 ≤ md ∧ md ≤ 1000:=by
 unfold sJ8 at h
 (repeat' split at h) <;> simp at h <;> omega
theorem b7 (h : sJ7 a val md vf = true) : 0 ≤ md ∧ md ≤ 1000:=by
 unfold sJ7 at h
 split at h <;> exact b8 a val md vf _ h
theorem b6 (b : Bool) (h : sJ6 a tg val md tn vf b = true) : 0 ≤ md ∧ md ≤ 1000:=by
 unfold sJ6 at h
 (repeat' split at h) <;> first|exact b7 a val md vf h|exact absurd h (by decide)
theorem b5 (x b : Bool) (h : sJ5 a tg val md tn vf x b = true) : 0 ≤ md ∧ md ≤ 1000:=by
 unfold sJ5 at h
 (repeat' split at h) <;> first|exact b6 a tg val md tn vf _ h|exact absurd h (by decide)
theorem b4 (b : Bool) (h : sJ4 a pat tg val md tn vf b = true) : 0 ≤ md ∧ md ≤ 1000:=by
 unfold sJ4 at h
 split at h <;> exact b5 a tg val md tn vf _ _ h
theorem b3 (b : Bool) (h : sJ3 a pat tg val md tn vf b = true) : 0 ≤ md ∧ md ≤ 1000:=by
 unfold sJ3 at h
 (repeat' split at h) <;> first|exact b4 a pat tg val md tn vf _ h|exact absurd h (by decide)
theorem b2 (b : Bool) (h : sJ2 a fr sep pat tg val md tn vf b = true) : 0 ≤ md ∧ md ≤ 1000:=by
 unfold sJ2 at h
 (repeat' split at h) <;> first|exact b3 a pat tg val md tn vf _ h|exact absurd h (by decide)
theorem b1 (h : sL a fr sep pat tg val md an tn vf = true) : 0 ≤ md ∧ md ≤ 1000:=by
 unfold sL at h
 (repeat' split at h) <;> first|exact b2 a fr sep pat tg val md tn vf _ h|exact absurd h (by decide)
def q5 (x : List UInt8) : List UInt8:=x ++ (if md = 0 then [] else [32,98,121,32] ++ Lib.itoa md)
def q4 (x : List UInt8) : List UInt8:=q5 md (x ++ (if val.toList = [] then [] else [32,97,115,32] ++ quoteL (Y val)))
def q3 (x : List UInt8) : List UInt8:=q4 val md (x ++ (if tg.toList = [] then [] else [32,116,111,32] ++ Y tg))
def q2 (x : List UInt8) : List UInt8:=q3 tg val md (x ++ (if pat.toList = [] then [] else [32,108,105,107,101,32] ++ quoteL (Y pat)))
def q1 (x : List UInt8) : List UInt8:=q2 pat tg val md (x ++ (if sep.toList = [] then [] else [32,115,101,112,32] ++ quoteL (Y sep)))
end
end Go.Proofs.YtacaelfdmlegdaaGreatDoor.U
namespace Go.Proofs.YtacaelfdmlegdaaGreatDoor.U
open Go.RowKit Go.Proofs.YtacaelfdmlegdaaGreatDoor.Pr Go.Proofs.YtacaelfdmlegdaaGreatDoorW.PrintWords Go.Proofs.YtacaelfdmlegdaaGreatDoorW.PrintLast Go.Proofs.YtacaelfdmlegdaaGreatDoorW.PrintMore
set_option linter.unusedVariables false
set_option linter.unusedSimpArgs false
def jn (l : List S53) (sep : ByteArray) : Bool → List ByteArray → List UInt8
 | _,[] => []
 | b,n :: ns => (if b = true then [] else Y sep) ++ (Y (ofL n l) ++ jn l sep false ns)
theorem joinTail_jn (l : List S53) (sep : ByteArray) : ∀ ns : List ByteArray,Lib.joinTail (Y sep) ((ns.map fun n => ofL n l).map Y) = jn l sep false ns:=by
 intro ns
 induction ns with
 | nil => rfl
 | cons n ns ih =>
  simp only [jn]
  rw [← ih]
  simp [Lib.joinTail]
theorem join_jn (l : List S53) (sep : ByteArray) (ns : List ByteArray) : Lib.join ((ns.map fun n => ofL n l).map Y) (Y sep) = jn l sep true ns:=by
 cases ns with
 | nil => rfl
 | cons n ns =>
  rw [List.map_cons,List.map_cons,Lib.join_cons,joinTail_jn]
  simp [jn]
theorem jn_len (l : List S53) (sep : ByteArray) (hs : sep.size ≤ 1000) (hv : ∀ n,(ofL n l).size ≤ 1000) : ∀ (b : Bool) (ns : List ByteArray),(jn l sep b ns).length ≤ 2000 * ns.length:=by
 intro b ns
 induction ns generalizing b with
 | nil => exact Nat.le_refl _
 | cons n ns ih =>
  have h1:=ih false
  have h2:=hv n
  simp only [jn,List.length_append,List.length_cons,Y_len]
  have h3 : (if b = true then [] else Y sep).length ≤ 1000:=by
   split
   ·exact Nat.zero_le _
   ·rw [Y_len];exact hs
  omega
section
variable (l : List S53) (a : Int) (fr : List ByteArray) (sep pat tg val : ByteArray) (md : Int)
theorem src_spec (hl : l.length ≤ 1048576) (hs : sep.size ≤ 1048576) (hv : ∀ n,(ofL n l).size ≤ 1048576) (hn : fr.length ≤ 1048576) (R : List S53 × Bool) (hR : Ev (fun k => spec_l4Apply.l0 k l (bs (jn l sep true fr)) fr (fr.length : Int) (fr.length : Int) a fr sep pat tg val md) R) : Ev (fun k => spec_l4Apply.f k l a fr sep pat tg val md) R:=by
 unfold spec_l4Apply.f
 have key:=up_ind fr.length (fun i => ∀ acc : List UInt8,acc.length ≤ 2097152 * i → acc ++ jn l sep (decide (i = 0)) (fr.drop i) = jn l sep true fr → Ev (fun k => spec_l4Apply.l0 k l (bs acc) fr (fr.length : Int) (i : Int) a fr sep pat tg val md) R) ?_ ?_ 0 (by omega) [] (by simp) (by simp)
 ·exact key
 ·intro acc ha he
  rw [List.drop_length,show jn l sep (decide (fr.length = 0)) [] = [] from rfl,List.append_nil] at he
  rw [he]
  exact hR
 ·intro i h ih acc ha he
  rw [List.drop_eq_getElem_cons h] at he
  simp only [jn] at he
  have hvi:=hv fr[i]
  refine ev_step (fun _ => spec_l4Apply.l0.eq_2 ..) (ev_pos (by omega) (ev_pos (by omega) (ev_pos (by omega) ?_)))
  rw [rdOf_at h,w64n h (by omega)]
  have e2 : ofL fr[i] l = bs (Y (ofL fr[i] l)):=(bs_Y _).symm
  refine ev_ite (fun h1 => ?_) (fun h1 => ?_)
  ·refine ev_pos (by rw [bs_size];omega) (ev_bind (of_spec l (by omega) _) (ev_pos (by rw [ByteArray.size_append,bs_size];omega) ?_))
   rw [show bs acc ++ sep ++ ofL fr[i] l = bs (acc ++ (Y sep ++ Y (ofL fr[i] l))) from Y_inj (by rw [Y_app,Y_app,Y_bs,Y_bs,List.append_assoc])]
   refine ih _ (by rw [List.length_append,List.length_append,Y_len,Y_len];omega) ?_
   rw [decide_eq_false (by omega)]
   rw [decide_eq_false (by omega),if_neg (by decide)] at he
   simpa [List.append_assoc] using he
  ·obtain rfl : i = 0:=by omega
   refine ev_bind (of_spec l (by omega) _) (ev_pos (by rw [bs_size];omega) ?_)
   rw [show bs acc ++ ofL fr[0] l = bs (acc ++ Y (ofL fr[0] l)) from Y_inj (by rw [Y_app,Y_bs,Y_bs])]
   refine ih _ (by rw [List.length_append,Y_len];omega) ?_
   rw [decide_eq_false (by omega)]
   rw [decide_eq_true rfl,if_pos rfl] at he
   simpa [List.append_assoc] using he
theorem src_impl (hl : l.length ≤ 1048576) (hn : fr.length ≤ 1048576) (R : List S53 × Bool) (hR : Ev (fun k => impl_relabel.l0 k l (fr.map fun n => ofL n l) fr (fr.length : Int) (fr.length : Int) a fr sep pat tg val md) R) : Ev (fun k => impl_relabel.f k l a fr sep pat tg val md) R:=by
 unfold impl_relabel.f
 have key:=up_ind fr.length (fun i => Ev (fun k => impl_relabel.l0 k l ((fr.take i).map fun n => ofL n l) fr (fr.length : Int) (i : Int) a fr sep pat tg val md) R) ?_ ?_ 0 (by omega)
 ·exact key
 ·rw [List.take_length]
  exact hR
 ·intro i h ih
  refine ev_step (fun _ => impl_relabel.l0.eq_2 ..) (ev_pos (by omega) (ev_pos (by omega) (ev_pos (by omega) ?_)))
  rw [rdOf_at h,w64n h (by omega)]
  refine ev_bind (of_impl l (by omega) _) (ev_pos (by rw [List.length_map,List.length_take];omega) ?_)
  rw [List.take_succ_eq_append_getElem h,List.map_append] at ih
  exact ih
end
theorem partP_size (s : ByteArray) : ∀ (l : List S108) (i : Nat),∀ x ∈ partP s l i,x.size ≤ s.size:=by
 intro l
 induction l with
 | nil => intro i x hx;cases hx
 | cons y l ih =>
  intro i x hx
  simp only [partP] at hx
  split at hx
  ·rcases List.mem_cons.1 hx with rfl|hx
   ·rw [ByteArray.size_extract];omega
   ·exact ih _ x hx
  ·exact ih _ x hx
theorem partsL_size (s : ByteArray) : ∀ l : List (List Int),∀ x ∈ (partsL s l).1,x.size ≤ s.size:=by
 intro l
 induction l with
 | nil => intro x hx;cases hx
 | cons a l ih =>
  intro x hx
  simp only [partsL] at hx
  split at hx
  ·exact partP_size s _ _ x hx
  ·exact ih x hx
def fitA (pat s : ByteArray) : Bool:=prL 100 (Y s) && (partsL s (patA pat)).2
theorem l4parts_spec (pat s : ByteArray) (hp : pat.size ≤ 9223372036854775807) (hs : s.size ≤ 1099511627776) : ∃ ps,Ev (fun k => spec_l4Parts.f k pat s) (ps,fitA pat s) ∧ (fitA pat s = true → ps = (partsL s (patA pat)).1):=by
 unfold spec_l4Parts.f fitA prL
 rw [Y_len]
 by_cases h1 : (s.size : Int) > 100
 ·exact ⟨[],by rw [decide_eq_false (show ¬ s.size ≤ 100 by omega),Bool.false_and,Bool.false_and];exact ev_pos h1 (ev_now _),by rw [decide_eq_false (show ¬ s.size ≤ 100 by omega)];simp⟩
 ·rw [decide_eq_true (show s.size ≤ 100 by omega),Bool.true_and]
  cases h2 : (Y s).all prC with
  | false => exact ⟨[],ev_neg h1 (ev_bind (printed_spec s (by omega)) (by rw [h2];exact ev_neg (by decide) (ev_now _))),by simp⟩
  | true => exact ⟨_,ev_neg h1 (ev_bind (printed_spec s (by omega)) (by rw [h2];exact ev_pos rfl (ev_bind (l2parts_spec pat s hp (by omega)) (ev_now _)))),fun _ => rfl⟩
theorem ppL_good {pat s : ByteArray} (hg : patB pat = true) (h : prL 100 (Y s) = true) : ppL pat s = partsL s (patA pat):=by
 unfold ppL
 have:=prL_size h
 rw [if_pos hg,if_pos this]
theorem mix_nn (k : Nat) : ∀ (x : Int) (xs : List Int) (n i r : Int),0 ≤ x → x < 18446744073709551616 → impl_Mix.l0 k x xs n i = some r → 0 ≤ r:=by
 induction k with
 | zero => intro x xs n i r _ _ h;cases h
 | succ k ih =>
  intro x xs n i r h0 h1 h
  simp only [impl_Mix.l0] at h
  split at h
  ·split at h
   ·split at h
    ·exact ih _ _ _ _ _ (bu64 _ _ _).1 (bu64 _ _ _).2 h
    ·cases h
   ·cases h
  ·cases h
   rw [w64 (by omega) (by omega)]
   omega
theorem mix_both_nn (l : List Int) (hl : l.length ≤ 1048576) : ∃ r,0 ≤ r ∧ Ev (fun k => impl_Mix.f k l) r ∧ Ev (fun k => spec_Mix.f k l) r:=by
 obtain ⟨r,e1,e2⟩:=mix_both l hl
 obtain ⟨K,hK⟩:=id e1
 exact ⟨r,mix_nn K _ _ _ _ r (by omega) (by omega) (hK K (Nat.le_refl _)),e1,e2⟩
theorem fill_size (s : ByteArray) (ps : List ByteArray) (hs : s.size ≤ 100) (hp : ∀ x ∈ ps,x.size ≤ 1048576) : ∀ (K i : Nat) (acc r : ByteArray),impl_FillValue.l0 K s ps acc (i : Int) = some r → i ≤ s.size → acc.size ≤ 1048576 * i → r.size ≤ 104857600:=by
 intro K
 induction K with
 | zero => intro i acc r h;cases h
 | succ K ih =>
  intro i acc r h hi ha
  simp only [impl_FillValue.l0] at h
  by_cases c1 : (i : Int) < (s.size : Int)
  ·have e1 : wrap64 ((i : Int) + 1) = ((i + 1 : Nat) : Int):=by rw [w64 (by omega) (by omega)];omega
   have e2 : wrap64 (((i + 1 : Nat) : Int) + 1) = ((i + 2 : Nat) : Int):=by rw [w64 (by omega) (by omega)];omega
   rw [if_pos c1,if_pos (show 0 ≤ (i : Int) from by omega),e1,e2] at h
   by_cases c2 : bt s (i : Int) = 36
   ·rw [if_pos c2,if_pos (show 0 ≤ ((i + 1 : Nat) : Int) from by omega)] at h
    by_cases c3 : ((i + 1 : Nat) : Int) < (s.size : Int)
    ·rw [if_pos c3] at h
     by_cases c4 : bt s ((i + 1 : Nat) : Int) = 36
     ·rw [if_pos c4] at h
      split at h
      ·exact ih (i + 2) _ r h (by omega) (by rw [ByteArray.size_append];show acc.size + 1 ≤ _;omega)
      ·cases h
     ·rw [if_neg c4] at h
      have hr:=rd_le ps hp ((bt s ((i + 1 : Nat) : Int) - 49) % 256)
      split at h
      ·split at h
       ·split at h
        ·exact ih (i + 2) _ r h (by omega) (by rw [ByteArray.size_append];omega)
        ·cases h
       ·cases h
      ·exact ih (i + 2) _ r h (by omega) (by omega)
    ·rw [if_neg c3] at h;cases h
   ·rw [if_neg c2] at h
    have hz : (s.extract i (i + 1)).size = 1:=by rw [ByteArray.size_extract];omega
    rw [Int.toNat_natCast] at h
    split at h
    ·exact ih (i + 1) _ r h (by omega) (by rw [ByteArray.size_append,hz];omega)
    ·cases h
  ·rw [if_neg c1] at h
   cases h
   omega
theorem fillA_two (val : ByteArray) (ps : List ByteArray) (hp : ∀ x ∈ ps,x.size ≤ 1048576) (hn : ps.length ≤ 100) (hf : Ev (fun k => impl_isFilling.f k val) true) : ∃ r : ByteArray,r.size ≤ 104857600 ∧ Ev (fun k => impl_FillValue.f k val ps) r ∧ Ev (fun k => spec_l4Fill.f k val ps) r:=by
 have key : val.size ≤ 100 ∧ ∃ K,impl_isFilling.l0 K val ((0 : Nat) : Int) = some true:=by
  obtain ⟨K,e1⟩:=hf
  have h:=e1 K (Nat.le_refl _)
  unfold impl_isFilling.f at h
  obtain ⟨t,ht,h⟩:=Option.bind_eq_some_iff.mp h
  by_cases c : t = true
  ·rw [if_pos c] at h
   refine ⟨?_,K,h⟩
   subst c
   unfold impl_printed.f at ht
   by_cases q : (val.size : Int) > 100
   ·rw [if_pos q] at ht;cases ht
   ·omega
  ·rw [if_neg c] at h;cases h
 obtain ⟨hz,K,hK⟩:=key
 obtain ⟨r,a,b⟩:=fill_run val ps hz hp K 0 ⟨#[]⟩ hK (by show 0 ≤ _;omega)
 obtain ⟨K2,h2⟩:=id a
 refine ⟨r,fill_size val ps hz hp K2 0 ⟨#[]⟩ r (h2 K2 (Nat.le_refl _)) (by omega) (by show 0 ≤ _;omega),?_,b⟩
 unfold impl_FillValue.f
 exact ev_bind hf (ev_pos rfl (ev_neg (by omega) a))
theorem rel_facts (a : Int) (fr : List ByteArray) (sep pat tg val : ByteArray) (md : Int) (an p1 p2 tn vf : Bool) (h : rI a fr sep pat tg val md an p1 p2 tn vf = true) : (1 ≤ a ∧ a ≤ 8) ∧ fr.length ≤ 10 ∧ p1 = true ∧ p2 = true ∧ vf = true ∧ (a = 4 → 1 ≤ md ∧ md ≤ 1000):=by
 have t0 : rJ0 a fr sep pat tg val md tn vf true = false:=if_pos rfl
 have t1 : rJ1 a fr sep pat val md vf true = false:=if_pos rfl
 have t2 : rJ2 a fr sep pat md true = false:=if_pos rfl
 have t3 : rJ3 a fr sep pat true = false:=if_pos rfl
 unfold rI at h
 by_cases c1 : a < 1
 ·rw [if_pos c1,t0] at h;cases h
 rw [if_neg c1] at h
 by_cases c2 : a > 8
 ·rw [if_pos c2,t0] at h;cases h
 rw [if_neg c2] at h
 by_cases c3 : (fr.length : Int) > 10
 ·rw [if_pos c3,t0] at h;cases h
 rw [if_neg c3] at h
 by_cases c4 : an = true
 ·rw [if_pos c4,t0] at h;cases h
 rw [if_neg c4] at h
 by_cases c5 : p1 = true
 ·rw [if_pos c5] at h
  cases p2 with
  | false => rw [show (!false) = true from rfl,t0] at h;cases h
  | true =>
   rw [show (!true) = false from rfl] at h
   unfold rJ0 at h
   rw [if_neg (by decide)] at h
   have k1 : ∃ b,rJ1 a fr sep pat val md vf b = true:=by
    split at h
    ·exact ⟨_,h⟩
    ·split at h
     ·exact ⟨_,h⟩
     ·exact ⟨_,h⟩
   obtain ⟨b1,h1⟩:=k1
   cases b1 with
   | true => rw [t1] at h1;cases h1
   | false =>
    unfold rJ1 at h1
    rw [if_neg (by decide)] at h1
    by_cases c6 : vf = true
    ·rw [if_pos c6] at h1
     have k2 : ∃ b,rJ2 a fr sep pat md b = true:=by
      split at h1
      ·exact ⟨_,h1⟩
      ·exact ⟨_,h1⟩
     obtain ⟨b2,h2⟩:=k2
     cases b2 with
     | true => rw [t2] at h2;cases h2
     | false =>
      refine ⟨by omega,by omega,c5,rfl,c6,fun ha => ?_⟩
      unfold rJ2 at h2
      rw [if_neg (by decide),if_pos ha] at h2
      by_cases c7 : md < 1
      ·rw [if_pos c7,t3] at h2;cases h2
      ·rw [if_neg c7] at h2
       by_cases c8 : md > 1000
       ·rw [if_pos c8,t3] at h2;cases h2
       ·omega
    ·rw [if_neg c6,t2] at h1;cases h1
 ·rw [if_neg c5,t0] at h;cases h
theorem withL_len1 (n v : ByteArray) : ∀ (l acc : List S53) (p : Bool),(withL n v acc p l).length ≤ acc.length + l.length + (if p = true then 0 else 1):=by
 intro l
 induction l with
 | nil =>
  intro acc p
  cases p <;> simp [withL]
 | cons x l ih =>
  intro acc p
  simp only [withL]
  split
  ·rename_i h
   have hp : p = false:=by cases p <;> simp_all
   subst hp
   split
   ·have:=ih (acc ++ [⟨n,v⟩]) true
    simp only [List.length_append,List.length_cons,List.length_nil,if_true] at this ⊢
    simp only [Bool.false_eq_true,if_false]
    omega
   ·have:=ih (acc ++ [⟨n,v⟩] ++ [x]) true
    simp only [List.length_append,List.length_cons,List.length_nil,if_true] at this ⊢
    simp only [Bool.false_eq_true,if_false]
    omega
  ·split
   ·have:=ih acc p
    simp only [List.length_cons]
    omega
   ·have:=ih (acc ++ [x]) p
    simp only [List.length_append,List.length_cons,List.length_nil] at this ⊢
    omega
theorem withL_keep (n v : ByteArray) (y : S53) (hy : y.f0.toList ≠ n.toList) : ∀ (l acc : List S53) (p : Bool),(y ∈ acc ∨ y ∈ l) → y ∈ withL n v acc p l:=by
 intro l
 induction l with
 | nil =>
  intro acc p h
  have h1 : y ∈ acc:=h.elim id (fun h => by cases h)
  simp only [withL]
  split
  ·exact h1
  ·exact List.mem_append_left _ h1
 | cons x l ih =>
  intro acc p h
  have h2 : x.f0.toList = n.toList → (y ∈ acc ∨ y ∈ l):=fun e => h.elim .inl (fun h => (List.mem_cons.1 h).elim (fun e2 => absurd (by rw [e2];exact e) hy) .inr)
  have h3 : ∀ z : List S53,(y ∈ (acc ++ z ++ [x]) ∨ y ∈ l):=fun z => h.elim (fun h => .inl (List.mem_append_left _ (List.mem_append_left _ h))) (fun h => (List.mem_cons.1 h).elim (fun e2 => .inl (by rw [e2];simp)) .inr)
  simp only [withL]
  split
  ·split
   ·rename_i e
    exact ih _ _ ((h2 e).elim (fun h => .inl (List.mem_append_left _ h)) .inr)
   ·exact ih _ _ (h3 _)
  ·split
   ·rename_i e
    exact ih _ _ (h2 e)
   ·have:=h3 []
    rw [List.append_nil] at this
    exact ih _ _ this
theorem withL_put (n v : ByteArray) : ∀ (l acc : List S53) (p : Bool),((⟨n,v⟩ : S53) ∈ acc ∨ p = false) → (⟨n,v⟩ : S53) ∈ withL n v acc p l:=by
 intro l
 induction l with
 | nil =>
  intro acc p h
  simp only [withL]
  split
  ·rename_i hp
   exact h.elim id (fun h => by rw [h] at hp;cases hp)
  ·simp
 | cons x l ih =>
  intro acc p h
  simp only [withL]
  split
  ·split
   ·exact ih _ _ (.inl (by simp))
   ·exact ih _ _ (.inl (by simp))
  ·split
   ·exact ih _ _ h
   ·exact ih _ _ (h.elim (fun h => .inl (List.mem_append_left _ h)) .inr)
theorem ofL_size (n : ByteArray) : ∀ l : List S53,(∀ x ∈ l,x.f1.size ≤ 100) → (ofL n l).size ≤ 100:=by
 intro l
 induction l with
 | nil => intro _;exact Nat.zero_le _
 | cons x l ih =>
  intro h
  unfold ofL
  split
  ·exact h x (List.mem_cons_self ..)
  ·exact ih fun y hy => h y (List.mem_cons_of_mem _ hy)
theorem word_pr {c : UInt8} (h : wordC c = true) : prC c = true:=by
 unfold wordC letC digC at h
 unfold prC
 simp only [Bool.or_eq_true,Bool.and_eq_true,decide_eq_true_eq] at h ⊢
 omega
theorem name_pr {s : ByteArray} (h : nameL (Y s) = true) : prL 100 (Y s) = true:=by
 unfold nameL at h
 simp only [Bool.and_eq_true,decide_eq_true_eq] at h
 unfold prL
 rw [Bool.and_eq_true]
 exact ⟨decide_eq_true (by omega),List.all_eq_true.2 fun c hc => word_pr (List.all_eq_true.1 h.2 c hc)⟩
theorem with_fit (n v : ByteArray) (hn : n.size ≤ 9223372036854775807) (hv : v.size ≤ 9223372036854775807) (l : List S53) (hf : fitL l) (hl : l.length ≤ 1048576) (p : Bool) : fitL (withL n v [] p l) :=
 ⟨by have:=withL_len n v l [] p;simp only [List.length_nil] at this;omega,withL_mem n v _ ⟨hn,hv⟩ l [] _ (fun _ h => absurd h List.not_mem_nil) hf.2⟩
theorem with_i (l : List S53) (hl : l.length ≤ 1048576) (n v : ByteArray) : Ev (fun k => impl_with.f k l n v) (withL n v [] (v.toList == []) l):=with_impl l hl n v (v.toList == [])
theorem with_s (l : List S53) (hf : fitL l) (hl : l.length ≤ 1048576) (n v : ByteArray) (hn : n.size ≤ 9223372036854775807) : Ev (fun k => spec_l2With.f k l n v) (withL n v [] (v.toList == []) l):=with_spec l hf hl n v hn (v.toList == [])
theorem put_two (l : List S53) (hf : fitL l) (hl : l.length ≤ 1048576) (n v : ByteArray) (hn : n.size ≤ 9223372036854775807) (hv : v.size ≤ 9223372036854775807) :
  ∃ (w : List S53) (b : Bool),Ev (fun k => (impl_with.f k l n v).bind fun t => (impl_GoodLabels.f k t).bind fun u => some (t,u)) (w,b) ∧ Ev (fun k => (spec_l2With.f k l n v).bind fun t => (spec_GoodLabels.f k t).bind fun u => some (t,u)) (w,b) ∧ (b = true → w = w ∧ goodL w = true) :=
 ⟨_,_,ev_bind (with_i l hl n v) (ev_bind (goodLabels_impl _ (with_fit n v hn hv l hf hl _)) (ev_now _)),ev_bind (with_s l hf hl n v hn) (ev_bind (goodLabels_spec _ (with_fit n v hn hv l hf hl _)) (ev_now _)),fun h => ⟨rfl,h⟩⟩
theorem lower_ev (s : ByteArray) (hs : s.size ≤ 1048576) : ∃ r : ByteArray,r.size ≤ 1048576 ∧ Ev (fun k => impl_lower.f k s) r:=by
 have key:=up_ind s.size (fun i => ∀ xs : List Int,xs.length = s.size → ∃ ys : List Int,ys.length = s.size ∧ Ev (fun k => impl_lower.l0 k xs (i : Int)) ys) ?_ ?_ 0 (by omega) (bytesOf s) (bytesOf_length s)
 ·obtain ⟨ys,h1,h2⟩:=key
  refine ⟨strOfNums ys,by rw [strOfNums_size];omega,?_⟩
  unfold impl_lower.f
  exact ev_pos (by omega) (ev_bind h2 (ev_now _))
 ·intro xs hx
  exact ⟨xs,hx,ev_step (fun _ => impl_lower.l0.eq_2 ..) (ev_neg (by omega) (ev_now _))⟩
 ·intro i h ih xs hx
  obtain ⟨ys,a1,a2⟩:=ih xs hx
  obtain ⟨zs,b1,b2⟩:=ih (xs.set (i : Int).toNat (IntKind.u8.wrap (rd xs (i : Int) + 32))) (by rw [List.length_set];exact hx)
  have wi : wrap64 ((i : Int) + 1) = ((i + 1 : Nat) : Int):=w64n h (by omega)
  rw [← wi] at a2 b2
  by_cases c1 : rd xs (i : Int) ≥ 65
  ·by_cases c2 : rd xs (i : Int) ≤ 90
   ·exact ⟨zs,b1,ev_step (fun _ => impl_lower.l0.eq_2 ..) (ev_pos (by omega) (ev_pos (by omega) (ev_pos c1 (ev_pos c2 b2))))⟩
   ·exact ⟨ys,a1,ev_step (fun _ => impl_lower.l0.eq_2 ..) (ev_pos (by omega) (ev_pos (by omega) (ev_pos c1 (ev_neg c2 a2))))⟩
  ·exact ⟨ys,a1,ev_step (fun _ => impl_lower.l0.eq_2 ..) (ev_pos (by omega) (ev_pos (by omega) (ev_neg c1 a2)))⟩
theorem len_sub {l : List S53} (hf : fitL l) (p : S53 → Bool) : fitL (l.filter p) :=
 ⟨Nat.le_trans (List.length_filter_le ..) hf.1,fun x hx => hf.2 x (List.mem_filter.1 hx).1⟩
section
variable (l : List S53) (a : Int) (fr : List ByteArray) (sep pat tg val : ByteArray) (md : Int)
theorem l2_spec (hf : fitL l) (hl : l.length ≤ 1048576) (hx : ∀ x ∈ l,x.f0.size ≤ 1048576) (hp : pat.size ≤ 1048576) (b : Bool) (hb : (a == 6) = b) : Ev (fun k => spec_l4Apply.l2 k [] l (l.length : Int) 0 a fr sep pat tg val md) (l.filter (fun x => (partsL x.f0 (patA pat)).2 == b),goodL (l.filter fun x => (partsL x.f0 (patA pat)).2 == b)):=by
 have hrd : ∀ (i : Nat) (h : i < l.length),rd_T53 l (i : Int) = l[i]:=fun i h => getD_lt h
 have key:=up_ind l.length (fun i => ∀ acc : List S53,acc.length ≤ i → acc ++ (l.drop i).filter (fun x => (partsL x.f0 (patA pat)).2 == b) = l.filter (fun x => (partsL x.f0 (patA pat)).2 == b) → Ev (fun k => spec_l4Apply.l2 k acc l (l.length : Int) (i : Int) a fr sep pat tg val md) (l.filter (fun x => (partsL x.f0 (patA pat)).2 == b),goodL (l.filter fun x => (partsL x.f0 (patA pat)).2 == b))) ?_ ?_ 0 (by omega) [] (by simp) (by simp)
 ·exact key
 ·intro acc ha he
  rw [List.drop_length,List.filter_nil,List.append_nil] at he
  subst he
  exact ev_step (fun _ => spec_l4Apply.l2.eq_2 ..) (ev_neg (by omega) (ev_bind (goodLabels_spec _ (len_sub hf _)) (ev_now _)))
 ·intro i h ih acc ha he
  have wi : wrap64 ((i : Int) + 1) = ((i + 1 : Nat) : Int):=w64n h (by omega)
  refine ev_step (fun _ => spec_l4Apply.l2.eq_2 ..) (ev_pos (by omega) (ev_pos (by omega) (ev_pos (by omega) ?_)))
  rw [hrd i h,wi,hb]
  rw [List.drop_eq_getElem_cons h] at he
  refine ev_bind (l2fits_spec pat l[i].f0 (by omega) (hx _ (List.getElem_mem h))) (ev_ite (fun c => ?_) (fun c => ?_))
  ·rw [List.filter_cons_of_pos (by exact c)] at he
   refine ev_pos (by omega) (ih _ (by rw [List.length_append,List.length_singleton];omega) ?_)
   rw [List.append_assoc]
   exact he
  ·rw [List.filter_cons_of_neg (by exact c)] at he
   exact ih _ (by omega) he
theorem map_bad (hp : patB pat = true) (hpz : pat.size ≤ 1048576) (hg : goodL l = true) (hv : Ev (fun k => impl_isFilling.f k val) true) : ∀ i,i ≤ l.length → ∀ out : List S53,fitL out → out.length ≤ 20 + i → (∃ y ∈ out,nameL (Y y.f0) = false) → ∃ v,Ev (fun k => impl_relabel.l1 k out l (l.length : Int) (i : Int) a fr sep pat tg val md) (v,false):=by
 have hrd : ∀ (i : Nat) (h : i < l.length),rd_T53 l (i : Int) = l[i]:=fun i h => getD_lt h
 obtain ⟨gl,gx⟩:=goodL_all hg
 refine up_ind l.length _ ?_ ?_
 ·rintro out hf ho ⟨y,hy,hb⟩
  refine ⟨out,ev_step (fun _ => impl_relabel.l1.eq_2 ..) (ev_neg (by omega) (ev_bind (goodLabels_impl _ hf) ?_))⟩
  have : goodL out = false:=by
   cases e : goodL out with
   | false => rfl
   | true =>
    unfold goodL at e
    rw [Bool.and_eq_true] at e
    rw [(riseL_all out none e.2 y hy).1] at hb
    cases hb
  rw [this]
  exact ev_now _
 ·rintro i h ih out hf ho ⟨y,hy,hb⟩
  have wi : wrap64 ((i : Int) + 1) = ((i + 1 : Nat) : Int):=w64n h (by omega)
  obtain ⟨x0,x1⟩:=gx l[i] (List.getElem_mem h)
  have xn : prL 100 (Y l[i].f0) = true:=by
   unfold goodL at hg
   rw [Bool.and_eq_true] at hg
   exact name_pr (riseL_all l none hg.2 l[i] (List.getElem_mem h)).1
  have xv : (l[i].f1.toList == []) = false:=by
   unfold goodL at hg
   rw [Bool.and_eq_true] at hg
   have:=(riseL_all l none hg.2 l[i] (List.getElem_mem h)).2
   rw [Y_eq]
   cases e : Y l[i].f1 with
   | nil => rw [e] at this;cases this
   | cons => rfl
  have e1:=pp_impl pat l[i].f0 (by omega) (by omega)
  rw [ppL_good hp xn] at e1
  obtain ⟨r,r1,r2,r3⟩:=fillA_two val (partsL l[i].f0 (patA pat)).1 (fun x hx => by have:=partsL_size _ _ x hx;omega) (partsL_len _ _ (patA_len pat).1) hv
  cases c : (partsL l[i].f0 (patA pat)).2 with
  | false =>
   obtain ⟨v,hv⟩:=ih out hf (by omega) ⟨y,hy,hb⟩
   refine ⟨v,ev_step (fun _ => impl_relabel.l1.eq_2 ..) (ev_pos (by omega) (ev_pos (by omega) (ev_pos (by omega) ?_)))⟩
   rw [hrd i h,wi]
   exact ev_bind e1 (ev_neg (by rw [c];decide) hv)
  | true =>
   have w:=with_i out (by omega) r l[i].f1
   have wf:=with_fit r l[i].f1 (by omega) (by omega) out hf (by omega) (l[i].f1.toList == [])
   have wl:=withL_len1 r l[i].f1 out [] (l[i].f1.toList == [])
   rw [xv,if_neg (by decide),List.length_nil] at wl
   rw [xv] at w wf
   obtain ⟨v,hv⟩:=ih _ wf (by omega) (by
    by_cases q : y.f0.toList = r.toList
    ·exact ⟨_,withL_put r l[i].f1 out [] false (.inr rfl),by rw [Y_eq,Y_eq] at q;show nameL (Y r) = false;rw [← q];exact hb⟩
    ·exact ⟨y,withL_keep r l[i].f1 y q out [] false (.inr hy),hb⟩)
   refine ⟨v,ev_step (fun _ => impl_relabel.l1.eq_2 ..) (ev_pos (by omega) (ev_pos (by omega) (ev_pos (by omega) ?_)))⟩
   rw [hrd i h,wi]
   exact ev_bind e1 (ev_pos c (ev_bind r2 (ev_bind w hv)))
theorem map_two (hp : patB pat = true) (hpz : pat.size ≤ 1048576) (hg : goodL l = true) (hv : Ev (fun k => impl_isFilling.f k val) true) : ∀ i,i ≤ l.length → ∀ out : List S53,fitL out → out.length ≤ 20 + i → ∃ (v1 v2 : List S53) (b : Bool),Ev (fun k => impl_relabel.l1 k out l (l.length : Int) (i : Int) a fr sep pat tg val md) (v1,b) ∧ Ev (fun k => spec_l4Apply.l1 k out l (l.length : Int) (i : Int) a fr sep pat tg val md) (v2,b) ∧ (b = true → v1 = v2 ∧ goodL v1 = true):=by
 have hrd : ∀ (i : Nat) (h : i < l.length),rd_T53 l (i : Int) = l[i]:=fun i h => getD_lt h
 obtain ⟨gl,gx⟩:=goodL_all hg
 refine up_ind l.length _ ?_ ?_
 ·intro out hf ho
  exact ⟨out,out,goodL out,ev_step (fun _ => impl_relabel.l1.eq_2 ..) (ev_neg (by omega) (ev_bind (goodLabels_impl _ hf) (ev_now _))),ev_step (fun _ => spec_l4Apply.l1.eq_2 ..) (ev_neg (by omega) (ev_bind (goodLabels_spec _ hf) (ev_now _))),fun h => ⟨rfl,h⟩⟩
 ·intro i h ih out hf ho
  have wi : wrap64 ((i : Int) + 1) = ((i + 1 : Nat) : Int):=w64n h (by omega)
  obtain ⟨x0,x1⟩:=gx l[i] (List.getElem_mem h)
  have xn : prL 100 (Y l[i].f0) = true:=by
   unfold goodL at hg
   rw [Bool.and_eq_true] at hg
   exact name_pr (riseL_all l none hg.2 l[i] (List.getElem_mem h)).1
  have xv : (l[i].f1.toList == []) = false:=by
   unfold goodL at hg
   rw [Bool.and_eq_true] at hg
   have:=(riseL_all l none hg.2 l[i] (List.getElem_mem h)).2
   rw [Y_eq]
   cases e : Y l[i].f1 with
   | nil => rw [e] at this;cases this
   | cons => rfl
  have e1:=pp_impl pat l[i].f0 (by omega) (by omega)
  rw [ppL_good hp xn] at e1
  obtain ⟨ps,e2,e3⟩:=l4parts_spec pat l[i].f0 (by omega) (by omega)
  have e4 : fitA pat l[i].f0 = (partsL l[i].f0 (patA pat)).2:=by unfold fitA;rw [xn,Bool.true_and]
  rw [e4] at e2 e3
  obtain ⟨r,r1,r2,r3⟩:=fillA_two val (partsL l[i].f0 (patA pat)).1 (fun x hx => by have:=partsL_size _ _ x hx;omega) (partsL_len _ _ (patA_len pat).1) hv
  cases c : (partsL l[i].f0 (patA pat)).2 with
  | false =>
   rw [c] at e2
   obtain ⟨v1,v2,b,h1,h2,h3⟩:=ih out hf (by omega)
   refine ⟨v1,v2,b,ev_step (fun _ => impl_relabel.l1.eq_2 ..) (ev_pos (by omega) (ev_pos (by omega) (ev_pos (by omega) ?_))),ev_step (fun _ => spec_l4Apply.l1.eq_2 ..) (ev_pos (by omega) (ev_pos (by omega) (ev_pos (by omega) ?_))),h3⟩
   ·rw [hrd i h,wi]
    exact ev_bind e1 (ev_neg (by rw [c];decide) h1)
   ·rw [hrd i h,wi]
    exact ev_bind e2 (ev_neg Bool.false_ne_true h2)
  | true =>
   rw [c] at e2
   obtain rfl:=e3 c
   have w:=with_i out (by omega) r l[i].f1
   have ws:=with_s out hf (by omega) r l[i].f1 (by omega)
   have wf:=with_fit r l[i].f1 (by omega) (by omega) out hf (by omega) (l[i].f1.toList == [])
   have wl:=withL_len1 r l[i].f1 out [] (l[i].f1.toList == [])
   rw [xv,if_neg (by decide),List.length_nil] at wl
   rw [xv] at w ws wf
   cases n : nameL (Y r) with
   | true =>
    obtain ⟨v1,v2,b,h1,h2,h3⟩:=ih _ wf (by omega)
    refine ⟨v1,v2,b,ev_step (fun _ => impl_relabel.l1.eq_2 ..) (ev_pos (by omega) (ev_pos (by omega) (ev_pos (by omega) ?_))),ev_step (fun _ => spec_l4Apply.l1.eq_2 ..) (ev_pos (by omega) (ev_pos (by omega) (ev_pos (by omega) ?_))),h3⟩
    ·rw [hrd i h,wi]
     exact ev_bind e1 (ev_pos c (ev_bind r2 (ev_bind w h1)))
    ·rw [hrd i h,wi]
     exact ev_bind e2 (ev_pos rfl (ev_bind r3 (ev_bind (name_spec r (by omega)) (ev_pos n (ev_bind ws h2)))))
   | false =>
    obtain ⟨v,h1⟩:=map_bad l a fr sep pat tg val md hp hpz hg hv (i + 1) (by omega) _ wf (by omega) ⟨_,withL_put r l[i].f1 out [] false (.inr rfl),n⟩
    refine ⟨v,[],false,ev_step (fun _ => impl_relabel.l1.eq_2 ..) (ev_pos (by omega) (ev_pos (by omega) (ev_pos (by omega) ?_))),ev_step (fun _ => spec_l4Apply.l1.eq_2 ..) (ev_pos (by omega) (ev_pos (by omega) (ev_pos (by omega) ?_))),fun h => by cases h⟩
    ·rw [hrd i h,wi]
     exact ev_bind e1 (ev_pos c (ev_bind r2 (ev_bind w h1)))
    ·rw [hrd i h,wi]
     exact ev_bind e2 (ev_pos rfl (ev_bind r3 (ev_bind (name_spec r (by omega)) (ev_neg (by rw [n];decide) (ev_now _)))))
theorem apply_two (hg : goodL l = true) (ha : 1 ≤ a ∧ a ≤ 8) (hn : fr.length ≤ 10) (hs : sep.size ≤ 10) (hp : patB pat = true) (hpz : pat.size ≤ 1048576) (htz : tg.size ≤ 1048576) (hv : Ev (fun k => impl_isFilling.f k val) true) (hm : a = 4 → 1 ≤ md ∧ md ≤ 1000) :
  ∃ (v1 v2 : List S53) (b : Bool),Ev (fun k => impl_relabel.f k l a fr sep pat tg val md) (v1,b) ∧ Ev (fun k => spec_l4Apply.f k l a fr sep pat tg val md) (v2,b) ∧ (b = true → v1 = v2 ∧ goodL v1 = true):=by
 obtain ⟨gl,gx⟩:=goodL_all hg
 have hf : fitL l:=⟨by omega,fun x hx => by have:=gx x hx;omega⟩
 have hvn : ∀ n,(ofL n l).size ≤ 100:=fun n => ofL_size n l fun x hx => (gx x hx).2
 have jl:=jn_len l sep (by omega) (fun n => by have:=hvn n;omega) true fr
 obtain ⟨s,es⟩ : ∃ s,s = bs (jn l sep true fr):=⟨_,rfl⟩
 have ss : s.size ≤ 20000:=by rw [es,bs_size];omega
 obtain ⟨ps,eP,hP⟩:=l4parts_spec pat s (by omega) (by omega)
 have ePP:=pp_impl pat s (by omega) (by omega)
 have ePR:=printed_impl s (by omega) 100
 have eC : Ev (fun _ => impl_Label_40.f l) l:=ev_eq (by unfold impl_Label_40.f;rw [if_pos (by omega)])
 have eS : Ev (fun _ => spec_l3Copy.f l) l:=ev_eq (by unfold spec_l3Copy.f;rw [if_pos (by simp only [List.length_nil];omega),List.nil_append])
 have eJ : Ev (fun _ => strings_Join.f (fr.map fun n => ofL n l) sep) s:=by
  refine ev_eq ?_
  unfold strings_Join.f
  have:=join_jn l sep fr
  rw [show (fr.map fun n => ofL n l).map (fun x : ByteArray => x.data.toList) = (fr.map fun n => ofL n l).map Y from rfl,show sep.data.toList = Y sep from rfl,this,if_pos ⟨by rw [List.length_map];omega,by omega⟩,es]
  rfl
 have iR : ∀ R,Ev (fun k => impl_relabel.j1 k l s l (ppL pat s).1 (fitA pat s) a fr sep pat tg val md) R → Ev (fun k => impl_relabel.f k l a fr sep pat tg val md) R:=by
  intro R h
  refine src_impl l a fr sep pat tg val md (by omega) (by omega) R (ev_step (fun _ => impl_relabel.l0.eq_2 ..) (ev_neg (by omega) (ev_bind eJ (ev_bind eC (ev_bind ePP ?_)))))
  refine ev_ite (fun c => ev_bind ePR ?_) (fun c => ?_)
  ·rw [show prL 100 (Y s) = fitA pat s from ?_]
   ·exact h
   ·unfold ppL at c
    rw [if_pos hp] at c
    split at c
    ·unfold fitA;rw [c,Bool.and_true]
    ·cases c
  ·rw [show false = fitA pat s from ?_]
   ·exact h
   ·unfold ppL at c
    rw [if_pos hp] at c
    unfold fitA
    split at c
    ·rw [Bool.eq_false_iff.2 c,Bool.and_false]
    ·rename_i q
     rw [show prL 100 (Y s) = false from Bool.eq_false_iff.2 fun e => q (prL_size e)]
     rfl
 have hx : ∀ x ∈ l,x.f0.size ≤ 1048576:=fun x hx => by have:=gx x hx;omega
 have hPP : fitA pat s = true → (ppL pat s).1 = ps:=fun c => by
  have c2:=c
  unfold fitA at c2
  rw [Bool.and_eq_true] at c2
  rw [ppL_good hp c2.1,hP c]
 have hpl : ps.length ≤ 100 ∨ fitA pat s = false:=by
  cases c : fitA pat s with
  | false => exact .inr rfl
  | true => exact .inl (by rw [hP c];exact partsL_len _ _ (patA_len pat).1)
 have hpz2 : fitA pat s = true → ∀ x ∈ ps,x.size ≤ 1048576:=fun c x hx => by rw [hP c] at hx;have:=partsL_size _ _ x hx;omega
 rcases (show a = 1 ∨ a = 2 ∨ a = 3 ∨ a = 4 ∨ a = 5 ∨ a = 6 ∨ a = 7 ∨ a = 8 by omega) with rfl|rfl|rfl|rfl|rfl|rfl|rfl|rfl
 ·exact ⟨l,l,fitA pat s,iR _ (ev_step (fun _ => impl_relabel.j1.eq_2 ..) (ev_pos rfl (ev_now _))),src_spec l 1 fr sep pat tg val md (by omega) (by omega) (fun n => by have:=hvn n;omega) (by omega) _ (by rw [← es];exact ev_step (fun _ => spec_l4Apply.l0.eq_2 ..) (ev_neg (by omega) (ev_bind eP (ev_bind eS (ev_pos rfl (ev_now _)))))),fun _ => ⟨rfl,hg⟩⟩
 ·exact ⟨l,l,!fitA pat s,iR _ (ev_step (fun _ => impl_relabel.j1.eq_2 ..) (ev_neg (by decide) <| ev_pos rfl (ev_now _))),src_spec l 2 fr sep pat tg val md (by omega) (by omega) (fun n => by have:=hvn n;omega) (by omega) _ (by rw [← es];exact ev_step (fun _ => spec_l4Apply.l0.eq_2 ..) (ev_neg (by omega) (ev_bind eP (ev_bind eS (ev_neg (by decide) <| ev_pos rfl (ev_now _)))))),fun _ => ⟨rfl,hg⟩⟩
 ·cases c : fitA pat s with
  | false =>
   rw [c] at iR eP
   exact ⟨l,l,goodL l,iR _ (ev_step (fun _ => impl_relabel.j1.eq_2 ..) (ev_neg (by decide) <| ev_neg (by decide) <| ev_pos rfl (ev_neg (by decide) (ev_bind (goodLabels_impl l hf) (ev_now _))))),src_spec l 3 fr sep pat tg val md (by omega) (by omega) (fun n => by have:=hvn n;omega) (by omega) _ (by rw [← es];exact ev_step (fun _ => spec_l4Apply.l0.eq_2 ..) (ev_neg (by omega) (ev_bind eP (ev_bind eS (ev_neg (by decide) <| ev_neg (by decide) <| ev_pos rfl (ev_neg Bool.false_ne_true (ev_bind (goodLabels_spec l hf) (ev_now _)))))))),fun _ => ⟨rfl,hg⟩⟩
  | true =>
   rw [c] at iR eP
   rw [hPP c] at iR
   obtain ⟨r,r1,r2,r3⟩:=fillA_two val ps (hpz2 c) (hpl.resolve_right (by rw [c];decide)) hv
   obtain ⟨w,b,w1,w2,w3⟩:=put_two l hf (by omega) tg r (by omega) (by omega)
   exact ⟨w,w,b,iR _ (ev_step (fun _ => impl_relabel.j1.eq_2 ..) (ev_neg (by decide) <| ev_neg (by decide) <| ev_pos rfl (ev_pos rfl (ev_bind r2 w1)))),src_spec l 3 fr sep pat tg val md (by omega) (by omega) (fun n => by have:=hvn n;omega) (by omega) _ (by rw [← es];exact ev_step (fun _ => spec_l4Apply.l0.eq_2 ..) (ev_neg (by omega) (ev_bind eP (ev_bind eS (ev_neg (by decide) <| ev_neg (by decide) <| ev_pos rfl (ev_pos rfl (ev_bind r3 w2))))))),w3⟩
 ·obtain ⟨m1,m2⟩:=hm rfl
  obtain ⟨r,r0,r2,r3⟩:=mix_both_nn (bytesOf s) (by rw [bytesOf_length];omega)
  have d0 : 0 ≤ Int.tmod r md:=Int.tmod_nonneg md r0
  have d1 : Int.tmod r md ≤ 1000:=by have:=Int.tmod_lt_of_pos r (show 0 < md by omega);omega
  have il:=itoa_len _ d0 d1
  obtain ⟨w,b,w1,w2,w3⟩:=put_two l hf (by omega) tg (bs (Lib.itoa (Int.tmod r md))) (by omega) (by rw [bs_size];omega)
  exact ⟨w,w,b,iR _ (ev_step (fun _ => impl_relabel.j1.eq_2 ..) (ev_neg (by decide) <| ev_neg (by decide) <| ev_neg (by decide) <| ev_pos rfl (ev_pos (by omega) (ev_bind r2 (ev_pos (by omega) (ev_bind (ev_eq (num_impl _ d0 d1)) w1)))))),src_spec l 4 fr sep pat tg val md (by omega) (by omega) (fun n => by have:=hvn n;omega) (by omega) _ (by rw [← es];exact ev_step (fun _ => spec_l4Apply.l0.eq_2 ..) (ev_neg (by omega) (ev_bind eP (ev_bind eS (ev_neg (by decide) <| ev_neg (by decide) <| ev_neg (by decide) <| ev_pos rfl (ev_pos (by omega) (ev_bind r3 (ev_pos (by omega) (ev_bind (num_spec _ d0 d1) w2))))))))),w3⟩
 ·obtain ⟨v1,v2,b,h1,h2,h3⟩:=map_two l 5 fr sep pat tg val md hp hpz hg hv 0 (by omega) l hf (by omega)
  exact ⟨v1,v2,b,iR _ (ev_step (fun _ => impl_relabel.j1.eq_2 ..) (ev_neg (by decide) <| ev_neg (by decide) <| ev_neg (by decide) <| ev_neg (by decide) <| ev_neg (by decide) <| ev_pos rfl h1)),src_spec l 5 fr sep pat tg val md (by omega) (by omega) (fun n => by have:=hvn n;omega) (by omega) _ (by rw [← es];exact ev_step (fun _ => spec_l4Apply.l0.eq_2 ..) (ev_neg (by omega) (ev_bind eP (ev_bind eS (ev_neg (by decide) <| ev_neg (by decide) <| ev_neg (by decide) <| ev_neg (by decide) <| ev_neg (by decide) <| ev_pos rfl h2))))),h3⟩
 ·have e1:=filt (fun k x => impl_PatternFits.f k pat x.f0) (fun x => (partsL x.f0 (patA pat)).2 == true) l (by omega) (fun x hx => by
   have xn : prL 100 (Y x.f0) = true:=by
    unfold goodL at hg
    rw [Bool.and_eq_true] at hg
    exact name_pr (riseL_all l none hg.2 x hx).1
   have x1:=gx x hx
   have e1:=pf_impl pat x.f0 (by omega) (by omega)
   rw [ppL_good hp xn] at e1
   rw [show ((partsL x.f0 (patA pat)).2 == true) = (partsL x.f0 (patA pat)).2 from by cases (partsL x.f0 (patA pat)).2 <;> rfl];exact e1)
  have e2:=l2_spec l 6 fr sep pat tg val md hf (by omega) hx (by omega) true (by decide)
  exact ⟨_,_,_,iR _ (ev_step (fun _ => impl_relabel.j1.eq_2 ..) (ev_neg (by decide) <| ev_neg (by decide) <| ev_neg (by decide) <| ev_neg (by decide) <| ev_neg (by decide) <| ev_neg (by decide) <| ev_pos rfl (ev_bind e1 (ev_bind (goodLabels_impl _ (len_sub hf _)) (ev_now _))))),src_spec l 6 fr sep pat tg val md (by omega) (by omega) (fun n => by have:=hvn n;omega) (by omega) _ (by rw [← es];exact ev_step (fun _ => spec_l4Apply.l0.eq_2 ..) (ev_neg (by omega) (ev_bind eP (ev_bind eS (ev_neg (by decide) <| ev_neg (by decide) <| ev_neg (by decide) <| ev_neg (by decide) <| ev_neg (by decide) <| ev_neg (by decide) <| e2))))),fun h => ⟨rfl,h⟩⟩
 ·have e1:=filt (fun k x => (impl_PatternFits.f k pat x.f0).bind fun b_ => some (!b_)) (fun x => (partsL x.f0 (patA pat)).2 == false) l (by omega) (fun x hx => by
   have xn : prL 100 (Y x.f0) = true:=by
    unfold goodL at hg
    rw [Bool.and_eq_true] at hg
    exact name_pr (riseL_all l none hg.2 x hx).1
   have x1:=gx x hx
   have e1:=pf_impl pat x.f0 (by omega) (by omega)
   rw [ppL_good hp xn] at e1
   rw [show ((partsL x.f0 (patA pat)).2 == false) = !(partsL x.f0 (patA pat)).2 from by cases (partsL x.f0 (patA pat)).2 <;> rfl];exact ev_bind e1 (ev_now _))
  have e2:=l2_spec l 7 fr sep pat tg val md hf (by omega) hx (by omega) false (by decide)
  exact ⟨_,_,_,iR _ (ev_step (fun _ => impl_relabel.j1.eq_2 ..) (ev_neg (by decide) <| ev_neg (by decide) <| ev_neg (by decide) <| ev_neg (by decide) <| ev_neg (by decide) <| ev_neg (by decide) <| ev_neg (by decide) <| ev_pos rfl (ev_bind e1 (ev_bind (goodLabels_impl _ (len_sub hf _)) (ev_now _))))),src_spec l 7 fr sep pat tg val md (by omega) (by omega) (fun n => by have:=hvn n;omega) (by omega) _ (by rw [← es];exact ev_step (fun _ => spec_l4Apply.l0.eq_2 ..) (ev_neg (by omega) (ev_bind eP (ev_bind eS (ev_neg (by decide) <| ev_neg (by decide) <| ev_neg (by decide) <| ev_neg (by decide) <| ev_neg (by decide) <| ev_neg (by decide) <| e2))))),fun h => ⟨rfl,h⟩⟩
 ·obtain ⟨r,r1,r2⟩:=lower_ev s (by omega)
  obtain ⟨w,b,w1,w2,w3⟩:=put_two l hf (by omega) tg r (by omega) (by omega)
  exact ⟨w,w,b,iR _ (ev_step (fun _ => impl_relabel.j1.eq_2 ..) (ev_neg (by decide) <| ev_neg (by decide) <| ev_neg (by decide) <| ev_neg (by decide) <| ev_pos rfl (ev_bind r2 w1))),src_spec l 8 fr sep pat tg val md (by omega) (by omega) (fun n => by have:=hvn n;omega) (by omega) _ (by rw [← es];exact ev_step (fun _ => spec_l4Apply.l0.eq_2 ..) (ev_neg (by omega) (ev_bind eP (ev_bind eS (ev_neg (by decide) <| ev_neg (by decide) <| ev_neg (by decide) <| ev_neg (by decide) <| ev_pos rfl (ev_bind r2 w2)))))),w3⟩
end
end Go.Proofs.YtacaelfdmlegdaaGreatDoor.U
namespace Go.Proofs.YtacaelfdmlegdaaGreatDoor.U
open Go.RowKit Go.Proofs.YtacaelfdmlegdaaGreatDoor.Pr Go.Proofs.YtacaelfdmlegdaaGreatDoorW.PrintWords Go.Proofs.YtacaelfdmlegdaaGreatDoorW.PrintLast Go.Proofs.YtacaelfdmlegdaaGreatDoorW.PrintMore
set_option linter.unusedVariables false
set_option linter.unusedSimpArgs false
theorem rel_good (a : Int) (fr : List ByteArray) (sep pat tg val : ByteArray) (md : Int) (hl : val.size ≤ 4611686018427387904) (ht : tg.size ≤ 9223372036854775807) (hp : pat.size ≤ 9223372036854775807) (hs : sep.size ≤ 9223372036854775807) (hf : fr.length ≤ 9223372036854775807 ∧ ∀ x ∈ fr,x.size ≤ 9223372036854775807)
  (h : Ev (fun k => impl_GoodRelabel.f k a fr sep pat tg val md) true) : (1 ≤ a ∧ a ≤ 8) ∧ fr.length ≤ 10 ∧ sep.size ≤ 10 ∧ patB pat = true ∧ Ev (fun k => impl_isFilling.f k val) true ∧ (a = 4 → 1 ≤ md ∧ md ≤ 1000):=by
 obtain ⟨vf,h1,h2,h3⟩:=fill_two val hl
 have e:=ev_one (rel_impl a fr sep pat tg val md vf h1 ht hp hs hf) h
 obtain ⟨q1,q2,q3,q4,q5,q6⟩:=rel_facts _ _ _ _ _ _ _ _ _ _ _ _ e
 subst q5
 exact ⟨q1,q2,prL_size q3,q4,h1,q6⟩
end Go.Proofs.YtacaelfdmlegdaaGreatDoor.U
namespace Go.Proofs.YtacaelfdmlegdaaGreatDoor.U
open Go.RowKit Go.Proofs.YtacaelfdmlegdaaGreatDoor.Pr Go.Proofs.YtacaelfdmlegdaaGreatDoorW.PrintWords Go.Proofs.YtacaelfdmlegdaaGreatDoorW.PrintLast Go.Proofs.YtacaelfdmlegdaaGreatDoorW.PrintMore
set_option linter.unusedVariables false
set_option linter.unusedSimpArgs false
theorem any_all_Relabel {α : Type} (P : Nat → α → Option Bool) (p : α → Bool) : ∀ l : List α,(∀ x ∈ l,Ev (fun k => P k x) (p x)) → ∃ K,∀ k,K ≤ k → ∀ x ∈ l,P k x = some (p x):=by
 intro l
 induction l with
 | nil => intro _;exact ⟨0,fun _ _ _ h => by cases h⟩
 | cons y l ih =>
  intro h
  obtain ⟨K,h1⟩:=ih (fun x hx => h x (List.mem_cons_of_mem _ hx))
  obtain ⟨K',h2⟩:=h y (List.mem_cons_self ..)
  refine ⟨max K K',fun k hk x hx => ?_⟩
  rcases List.mem_cons.1 hx with rfl|hx
  ·exact h2 k (by omega)
  ·exact h1 k (by omega) x hx
theorem any_at_Relabel (P : S32 → Option Bool) (p : S32 → Bool) (l : List S32) (hl : l.length ≤ 9223372036854775807) (h : ∀ x ∈ l,P x = some (p x)) : ∀ (d k i : Nat),i + d = l.length → d < k → ∃ r,impl_Relabel_75.l0 P l k (i : Int) = some r ∧ decide (0 ≤ r) = (l.drop i).any p:=by
 have hrd : ∀ (i : Nat) (h : i < l.length),rd_T32 l (i : Int) = l[i]:=fun i h => getD_lt h
 intro d
 induction d with
 | zero =>
  intro k i h1 h2
  obtain ⟨k,rfl⟩ : ∃ m,k = m + 1:=⟨k - 1,by omega⟩
  simp only [impl_Relabel_75.l0]
  rw [if_neg (by omega),List.drop_eq_nil_of_le (by omega),List.any_nil]
  exact ⟨-1,rfl,rfl⟩
 | succ d ih =>
  intro k i h1 h2
  obtain ⟨k,rfl⟩ : ∃ m,k = m + 1:=⟨k - 1,by omega⟩
  have hi : i < l.length:=by omega
  have hp : P l[i] = some (p l[i]):=h l[i] (List.getElem_mem hi)
  simp only [impl_Relabel_75.l0]
  rw [if_pos (by omega),if_pos (by omega),hrd i hi,hp,Option.bind_some,List.drop_eq_getElem_cons hi,List.any_cons,w64n hi (by omega)]
  by_cases hq : p l[i] = true
  ·rw [if_pos hq,hq,Bool.true_or]
   exact ⟨i,rfl,decide_eq_true (by omega)⟩
  ·rw [if_neg hq,Bool.eq_false_iff.2 hq,Bool.false_or]
   exact ih k (i + 1) (by omega) (by omega)
theorem any_Relabel (P : Nat → S32 → Option Bool) (p : S32 → Bool) (l : List S32) (hl : l.length ≤ 9223372036854775807) (h : ∀ x ∈ l,Ev (fun k => P k x) (p x)) : Ev (fun k => impl_Relabel_38.f k (P k) l) (l.any p):=by
 obtain ⟨K,hK⟩:=any_all_Relabel P p l h
 refine ⟨max K (l.length + 1),fun k hk => ?_⟩
 obtain ⟨r,h1,h2⟩:=any_at_Relabel (P k) p l hl (hK k (by omega)) l.length k 0 (by omega) (by omega)
 have h3 : impl_Relabel_75.f k (P k) l = some r:=h1
 show ((impl_Relabel_75.f k (P k) l).bind fun j => some (decide (0 ≤ j))) = some (l.any p)
 rw [h3,Option.bind_some,h2]
 rfl
end Go.Proofs.YtacaelfdmlegdaaGreatDoor.U
namespace Go.Proofs.YtacaelfdmlegdaaGreatDoor.U
open Go.RowKit Go.Proofs.YtacaelfdmlegdaaGreatDoor.Pr Go.Proofs.YtacaelfdmlegdaaGreatDoorW.PrintWords Go.Proofs.YtacaelfdmlegdaaGreatDoorW.PrintLast Go.Proofs.YtacaelfdmlegdaaGreatDoorW.PrintMore
set_option linter.unusedVariables false
set_option linter.unusedSimpArgs false
def sm49 (x : S49) : Prop:=x.f0.size ≤ 1048576 ∧ x.f1.size ≤ 1048576
def cv49 (x : S49) : S53:=⟨x.f0,x.f1⟩
theorem toLabel (x : S49) (hx : sm49 x) : Ev (fun _ => laws_toLabel.f x.f0 x.f1) (x.f0,x.f1):=by
 obtain ⟨h0,h1⟩:=hx
 unfold laws_toLabel.f
 exact ev_now _
theorem eqLabel (x : S53) : Ev (fun _ => laws_eqLabel.f x.f0 x.f1 x.f0 x.f1) true:=ev_eq (by simp [laws_eqLabel.f])
def sw49 (x : S49) : Prop:=(x.f0.size ≤ maxLen) ∧ (x.f1.size ≤ maxLen)
theorem szLabel (x : S49) (c : Int) (h0 : 0 ≤ c) (h1 : c ≤ 1048576) (hw : sw49 x) : ∃ r,Ev (fun _ => laws_szLabel.f x.f0 x.f1 c) r ∧ r ≤ c ∧ (0 ≤ r → sm49 x):=by
 obtain ⟨w0,w1⟩:=hw
 unfold laws_szLabel.f
 simp only [maxLen] at w0
 rw [w64 (x:=c - (x.f0.size : Int)) (by omega) (by omega)]
 by_cases n0 : c - (x.f0.size : Int) < 0
 ·exact ⟨-1,ev_pos n0 (ev_now _),by omega,fun h => absurd h (by decide)⟩
 ·skip
  simp only [maxLen] at w1
  rw [w64 (x:=(c - (x.f0.size : Int)) - (x.f1.size : Int)) (by omega) (by omega)]
  by_cases n1 : (c - (x.f0.size : Int)) - (x.f1.size : Int) < 0
  ·exact ⟨-1,ev_neg n0 (ev_pos n1 (ev_now _)),by omega,fun h => absurd h (by decide)⟩
  ·skip
   exact ⟨_,ev_neg n0 (ev_neg n1 (ev_now _)),by omega,fun _ => ⟨by omega,by omega⟩⟩
end Go.Proofs.YtacaelfdmlegdaaGreatDoor.U
namespace Go.Proofs.YtacaelfdmlegdaaGreatDoor.U
open Go.RowKit Go.Proofs.YtacaelfdmlegdaaGreatDoor.Pr Go.Proofs.YtacaelfdmlegdaaGreatDoorW.PrintWords Go.Proofs.YtacaelfdmlegdaaGreatDoorW.PrintLast Go.Proofs.YtacaelfdmlegdaaGreatDoorW.PrintMore
set_option linter.unusedVariables false
set_option linter.unusedSimpArgs false
theorem markText_l (m : Nat) : ∀ (c : Int) (s : ByteArray),0 ≤ c → c < 10 ^ m → c ≤ 9223372036854775807 → s.size + m < 1000 → ∃ r,Ev (fun k => laws_markText.l0 k c s) r:=by
 induction m with
 | zero =>
  intro c s h0 h1 _ h2
  simp at h1
  have hs : 1 + s.size ≤ 9223372036854775807:=by omega
  exact ⟨_,ev_step (fun _ => laws_markText.l0.eq_2 ..) (ev_neg (by omega) (ev_pos hs (ev_now _)))⟩
 | succ m ih =>
  intro c s h0 h1 h1' h2
  by_cases hc : c > 0
  ·rw [Int.pow_succ] at h1
   have e : wrap64 (Int.tdiv c 10) = c / 10:=by rw [Int.tdiv_eq_ediv_of_nonneg h0,w64 (by omega) (by omega)]
   have hz : ∀ x : Int,(strOfNums [x]).size = 1:=fun x => strOfNums_size [x]
   obtain ⟨r,hr⟩:=ih (c / 10) (strOfNums [wrap64 (48 + Int.tmod c 10) % 256] ++ s) (by omega) (by generalize (10 : Int) ^ m = p at h1 ⊢;omega) (by omega) (by rw [ByteArray.size_append,hz];omega)
   refine ⟨r,ev_step (fun _ => laws_markText.l0.eq_2 ..) (ev_pos hc (ev_some (ev_pos (by rw [hz];omega) ?_)))⟩
   rw [e]
   exact hr
  ·have hs : 1 + s.size ≤ 9223372036854775807:=by omega
   exact ⟨_,ev_step (fun _ => laws_markText.l0.eq_2 ..) (ev_neg hc (ev_pos hs (ev_now _)))⟩
theorem markText (c : Int) (h0 : 0 < c) (h1 : c ≤ 9223372036854775807) : ∃ r,Ev (fun k => laws_markText.f k c) r:=by
 obtain ⟨r,hr⟩:=markText_l 19 c ⟨#[]⟩ (by omega) (Int.lt_of_le_of_lt h1 (by decide)) h1 (by decide)
 refine ⟨r,?_⟩
 unfold laws_markText.f
 exact ev_neg (by omega) hr
end Go.Proofs.YtacaelfdmlegdaaGreatDoor.U
namespace Go.Proofs.YtacaelfdmlegdaaGreatDoor.U
open Go.RowKit Go.Proofs.YtacaelfdmlegdaaGreatDoor.Pr Go.Proofs.YtacaelfdmlegdaaGreatDoorW.PrintWords Go.Proofs.YtacaelfdmlegdaaGreatDoorW.PrintLast Go.Proofs.YtacaelfdmlegdaaGreatDoorW.PrintMore
set_option linter.unusedVariables false
set_option linter.unusedSimpArgs false
theorem toLabelS (l : List (S49)) (hl : (l.length ≤ 1048576 ∧ ∀ y ∈ l,sm49 y)) : Ev (fun k => laws_toLabelS.f k l) (l.map cv49):=by
 obtain ⟨hl,hs⟩:=hl
 unfold laws_toLabelS.f
 repeat (first|(with_reducible refine ev_pos (by first|omega|rfl|decide) ?_)|(with_reducible refine ev_neg (by first|omega|decide) ?_))
 have key:=ev_copy (F:=fun k y i => laws_toLabelS.l0 k l y i) cv49 l (List.replicate ((l.length : Int) : Int).toNat z53) (by simp) ?step ?done
 case step =>
  intro i h y r hy hr
  refine ev_step (fun _ => laws_toLabelS.l0.eq_2 ..) ?_
  repeat (first|(with_reducible refine ev_pos (by first|omega|rfl|decide) ?_)|(with_reducible refine ev_neg (by first|omega|decide) ?_))
  rw [(show rd_T49 l (i : Int) = l[i] from getD_lt h)]
  refine ev_bind (toLabel l[i] (hs _ (List.getElem_mem h))) ?_
  repeat (first|(with_reducible refine ev_pos (by first|omega|rfl|decide) ?_)|(with_reducible refine ev_neg (by first|omega|decide) ?_))
  rw [w64n h (by omega),Int.toNat_natCast]
  exact hr
 case done =>
  intro y hy
  refine ev_step (fun _ => laws_toLabelS.l0.eq_2 ..) ?_
  repeat (first|(with_reducible refine ev_pos (by first|omega|rfl|decide) ?_)|(with_reducible refine ev_neg (by first|omega|decide) ?_))
  exact ev_now _
 exact key
theorem eqLabelS (l : List (S53)) (hl : l.length ≤ 1048576) : Ev (fun k => laws_eqLabelS.f k l l) true:=by
 unfold laws_eqLabelS.f
 refine ev_pos rfl ?_
 refine up_ind l.length (fun i => Ev (fun k => laws_eqLabelS.l0 k l l (i : Int)) true) ?_ ?_ 0 (by omega)
 ·refine ev_step (fun _ => laws_eqLabelS.l0.eq_2 ..) ?_
  refine ev_neg (by omega) ?_
  exact ev_now _
 ·intro i h ih
  refine ev_step (fun _ => laws_eqLabelS.l0.eq_2 ..) ?_
  repeat (first|(with_reducible refine ev_pos (by first|omega|rfl|decide) ?_)|(with_reducible refine ev_neg (by first|omega|decide) ?_))
  refine ev_bind (eqLabel _) ?_
  refine ev_pos rfl ?_
  rw [w64n h (by omega)]
  exact ih
theorem szLabelS (l : List (S49)) (c : Int) (h0 : 0 ≤ c) (h1 : c ≤ 1048576) (hl : l.length ≤ maxLen) (hw : ∀ x ∈ l,sw49 x) : ∃ r,Ev (fun k => laws_szLabelS.f k l c) r ∧ r ≤ c ∧ (0 ≤ r → (l.length ≤ 1048576 ∧ ∀ y ∈ l,sm49 y)):=by
 simp only [maxLen] at hl
 unfold laws_szLabelS.f
 rw [w64 (x:=c - (l.length : Int)) (by omega) (by omega)]
 by_cases hn : c - (l.length : Int) < 0
 ·exact ⟨-1,ev_pos hn (ev_now _),by omega,fun h => absurd h (by decide)⟩
 ·have key:=up_ind l.length (fun i => ∀ c : Int,0 ≤ c → c ≤ 1048576 → ∃ r,Ev (fun k => laws_szLabelS.l0 k l c (i : Int)) r ∧ r ≤ c ∧ (0 ≤ r → ∀ j (h : j < l.length),i ≤ j → sm49 l[j])) ?d ?s 0 (by omega) (c - (l.length : Int)) (by omega) (by omega)
  case d => exact fun c h0 h1 => ⟨c,ev_step (fun _ => laws_szLabelS.l0.eq_2 ..) (ev_neg (by omega) (ev_now _)),Int.le_refl _,fun _ j h hj => by omega⟩
  case s =>
   intro i h ih c h0 h1
   obtain ⟨r1,e1,hr1,hs1⟩:=szLabel l[i] c h0 h1 (hw _ (List.getElem_mem h))
   by_cases hr : r1 < 0
   ·refine ⟨-1,ev_step (fun _ => laws_szLabelS.l0.eq_2 ..) ?_,by omega,fun h => absurd h (by decide)⟩
    repeat (first|(with_reducible refine ev_pos (by first|omega|rfl|decide) ?_)|(with_reducible refine ev_neg (by first|omega|decide) ?_))
    rw [(show rd_T49 l (i : Int) = l[i] from getD_lt h)]
    exact ev_bind e1 (ev_pos hr (ev_now _))
   ·obtain ⟨r,e,hrc,hs⟩:=ih (r1) (by omega) (by omega)
    refine ⟨r,ev_step (fun _ => laws_szLabelS.l0.eq_2 ..) ?_,by omega,fun h2 j hj hij => ?_⟩
    ·repeat (first|(with_reducible refine ev_pos (by first|omega|rfl|decide) ?_)|(with_reducible refine ev_neg (by first|omega|decide) ?_))
     rw [(show rd_T49 l (i : Int) = l[i] from getD_lt h)]
     refine ev_bind e1 (ev_neg hr ?_)
     rw [w64n h (by omega)]
     exact e
    ·by_cases ej : j = i
     ·subst ej
      exact hs1 (by omega)
     ·exact hs h2 j hj (by omega)
  obtain ⟨r,e,hrc,hs⟩:=key
  refine ⟨r,ev_neg hn e,by omega,fun h => ⟨by omega,fun y hy => ?_⟩⟩
  obtain ⟨j,hj,rfl⟩:=List.getElem_of_mem hy
  exact hs h j hj (by omega)
theorem markLabelS (l : List (S53)) (hl : l.length ≤ 1048576) (c : Int) (h0 : 0 < c) (h1 : c ≤ 4611686018427387904) : ∃ y c',Ev (fun k => laws_markLabelS.f k l c) (c',y) ∧ Ev (fun k => laws_heldLabelS.f k y c) c' ∧ c ≤ c' ∧ c' ≤ c + 2 * l.length:=by
 have key:=up_ind l.length (fun i => ∀ (x : List (S53)) (c : Int),x.length = l.length → 0 < c → c + 2 * (l.length - i : Nat) ≤ 9000000000000000000 → ∃ y c',Ev (fun k => laws_markLabelS.l0 k x c (i : Int)) (c',y) ∧ Ev (fun k => laws_heldLabelS.l0 k y c (i : Int)) c' ∧ y.length = l.length ∧ (∀ j,j < i → y[j]? = x[j]?) ∧ c ≤ c' ∧ c' ≤ c + 2 * (l.length - i : Nat)) ?d ?s 0 (by omega) l c rfl h0 (by omega)
 case d =>
  intro x c hx h0 h1
  refine ⟨x,c,ev_step (fun _ => laws_markLabelS.l0.eq_2 ..) (ev_neg (by omega) (ev_now _)),ev_step (fun _ => laws_heldLabelS.l0.eq_2 ..) (ev_neg (by omega) (ev_now _)),hx,fun _ _ => rfl,by omega,by omega⟩
 case s =>
  intro i h ih x c hx h0 h1
  obtain ⟨s0,es0⟩:=markText (c) (by omega) (by omega)
  obtain ⟨s1,es1⟩:=markText (c + 1) (by omega) (by omega)
  have w1 : wrap64 (c + 1) = c + 1:=(w64 (by omega) (by omega)).trans (by omega)
  have w2 : wrap64 ((c + 1) + 1) = c + 2:=(w64 (by omega) (by omega)).trans (by omega)
  have wi : wrap64 ((i : Int) + 1) = ((i + 1 : Nat) : Int):=w64n h (by omega)
  have hset : ∀ a,rd_T53 (x.set i a) (i : Int) = a:=fun a => by rw [show rd_T53 (x.set i a) (i : Int) = (x.set i a)[i]'(by simp;omega) from getD_lt (by simp;omega)];simp
  obtain ⟨y,c',e1,e2,hy,hj,q1,q2⟩:=ih (x.set i ⟨s0,s1⟩) (c + 2) (by simp [hx]) (by omega) (by omega)
  refine ⟨y,c',ev_step (fun _ => laws_markLabelS.l0.eq_2 ..) ?_,ev_step (fun _ => laws_heldLabelS.l0.eq_2 ..) ?_,hy,fun j h' => ?_,by omega,by omega⟩
  ·simp only [w1,w2,wi,Int.toNat_natCast]
   repeat (first|(with_reducible refine ev_pos (by first|omega|rfl|decide) ?_)|(with_reducible refine ev_some ?_)|(with_reducible refine ev_bind es0 ?_)|(with_reducible refine ev_bind es1 ?_))
   simp only [hset,List.set_set]
   exact e1
  ·have ey : rd_T53 y (i : Int) = ⟨s0,s1⟩:=by
    have:=hj i (by omega)
    rw [List.getElem?_set_self (by omega),List.getElem?_eq_getElem (by omega)] at this
    rw [show rd_T53 y (i : Int) = y[i]'(by omega) from getD_lt (by omega)]
    exact Option.some.inj this
   simp only [ey,w1,w2,wi]
   repeat (first|(with_reducible refine ev_pos (by first|omega|rfl|decide) ?_)|(with_reducible refine ev_bind es0 ?_)|(with_reducible refine ev_bind es1 ?_))
   exact e2
  ·rw [hj j (by omega),List.getElem?_set_ne (by omega)]
 obtain ⟨y,c',e1,e2,_,_,q1,q2⟩:=key
 exact ⟨y,c',e1,e2,q1,by omega⟩
end Go.Proofs.YtacaelfdmlegdaaGreatDoor.U
namespace Go.Proofs.YtacaelfdmlegdaaGreatDoor.U
open Go.RowKit Go.Proofs.YtacaelfdmlegdaaGreatDoor.Pr Go.Proofs.YtacaelfdmlegdaaGreatDoorW.PrintWords Go.Proofs.YtacaelfdmlegdaaGreatDoorW.PrintLast Go.Proofs.YtacaelfdmlegdaaGreatDoorW.PrintMore
set_option linter.unusedVariables false
set_option linter.unusedSimpArgs false
def sm25 (x : S25) : Prop:=(x.f1.length ≤ 1048576 ∧ ∀ y ∈ x.f1,y.size ≤ 1048576) ∧ x.f2.size ≤ 1048576 ∧ x.f3.size ≤ 1048576 ∧ x.f4.size ≤ 1048576 ∧ x.f5.size ≤ 1048576
def cv25 (x : S25) : S32:=⟨x.f0,x.f1,x.f2,x.f3,x.f4,x.f5,x.f6⟩
theorem toRelabel (x : S25) (hx : sm25 x) : Ev (fun k => laws_toRelabel.f k x.f0 x.f1 x.f2 x.f3 x.f4 x.f5 x.f6) (x.f0,x.f1,x.f2,x.f3,x.f4,x.f5,x.f6):=by
 obtain ⟨h1,h2,h3,h4,h5⟩:=hx
 unfold laws_toRelabel.f
 refine ev_bind (toStringS _ h1) ?_
 exact ev_now _
def se32 (x : S32) : Prop:=(x.f1.length ≤ 1048576)
theorem eqRelabel (x : S32) (hx : se32 x) : Ev (fun k => laws_eqRelabel.f k x.f0 x.f1 x.f2 x.f3 x.f4 x.f5 x.f6 x.f0 x.f1 x.f2 x.f3 x.f4 x.f5 x.f6) true:=by
 have h1:=hx
 unfold laws_eqRelabel.f
 refine ev_pos rfl ?_
 refine ev_bind (eqStringS _ h1) ?_
 refine ev_pos rfl ?_
 refine ev_pos rfl ?_
 refine ev_pos rfl ?_
 refine ev_pos rfl ?_
 refine ev_pos rfl ?_
 refine ev_pos rfl ?_
 exact ev_now _
def sw25 (x : S25) : Prop:=(x.f1.length ≤ maxLen ∧ ∀ y ∈ x.f1,y.size ≤ maxLen) ∧ (x.f2.size ≤ maxLen) ∧ (x.f3.size ≤ maxLen) ∧ (x.f4.size ≤ maxLen) ∧ (x.f5.size ≤ maxLen)
theorem szRelabel (x : S25) (c : Int) (h0 : 0 ≤ c) (h1 : c ≤ 1048576) (hw : sw25 x) : ∃ r,Ev (fun k => laws_szRelabel.f k x.f0 x.f1 x.f2 x.f3 x.f4 x.f5 x.f6 c) r ∧ r ≤ c ∧ (0 ≤ r → sm25 x):=by
 obtain ⟨w1,w2,w3,w4,w5⟩:=hw
 unfold laws_szRelabel.f
 obtain ⟨r1,e1,q1,s1⟩:=szStringS x.f1 c (by omega) (by omega) w1.1 w1.2
 by_cases n1 : r1 < 0
 ·exact ⟨-1,ev_bind e1 (ev_pos n1 (ev_now _)),by omega,fun h => absurd h (by decide)⟩
 ·skip
  simp only [maxLen] at w2
  have x2 : wrap64 (r1 - (x.f2.size : Int)) = r1 - (x.f2.size : Int):=w64 (by omega) (by omega)
  by_cases n2 : r1 - (x.f2.size : Int) < 0
  ·exact ⟨-1,ev_bind e1 (ev_neg n1 (ev_pos (by rw [x2];exact n2) (ev_now _))),by omega,fun h => absurd h (by decide)⟩
  ·skip
   simp only [maxLen] at w3
   have x3 : wrap64 ((r1 - (x.f2.size : Int)) - (x.f3.size : Int)) = (r1 - (x.f2.size : Int)) - (x.f3.size : Int):=w64 (by omega) (by omega)
   by_cases n3 : (r1 - (x.f2.size : Int)) - (x.f3.size : Int) < 0
   ·exact ⟨-1,ev_bind e1 (ev_neg n1 (ev_neg (by rw [x2];exact n2) (ev_pos (by rw [x2,x3];exact n3) (ev_now _)))),by omega,fun h => absurd h (by decide)⟩
   ·skip
    simp only [maxLen] at w4
    have x4 : wrap64 (((r1 - (x.f2.size : Int)) - (x.f3.size : Int)) - (x.f4.size : Int)) = ((r1 - (x.f2.size : Int)) - (x.f3.size : Int)) - (x.f4.size : Int):=w64 (by omega) (by omega)
    by_cases n4 : ((r1 - (x.f2.size : Int)) - (x.f3.size : Int)) - (x.f4.size : Int) < 0
    ·exact ⟨-1,ev_bind e1 (ev_neg n1 (ev_neg (by rw [x2];exact n2) (ev_neg (by rw [x2,x3];exact n3) (ev_pos (by rw [x2,x3,x4];exact n4) (ev_now _))))),by omega,fun h => absurd h (by decide)⟩
    ·skip
     simp only [maxLen] at w5
     have x5 : wrap64 ((((r1 - (x.f2.size : Int)) - (x.f3.size : Int)) - (x.f4.size : Int)) - (x.f5.size : Int)) = (((r1 - (x.f2.size : Int)) - (x.f3.size : Int)) - (x.f4.size : Int)) - (x.f5.size : Int):=w64 (by omega) (by omega)
     by_cases n5 : (((r1 - (x.f2.size : Int)) - (x.f3.size : Int)) - (x.f4.size : Int)) - (x.f5.size : Int) < 0
     ·exact ⟨-1,ev_bind e1 (ev_neg n1 (ev_neg (by rw [x2];exact n2) (ev_neg (by rw [x2,x3];exact n3) (ev_neg (by rw [x2,x3,x4];exact n4) (ev_pos (by rw [x2,x3,x4,x5];exact n5) (ev_now _)))))),by omega,fun h => absurd h (by decide)⟩
     ·skip
      exact ⟨((((r1 - (x.f2.size : Int)) - (x.f3.size : Int)) - (x.f4.size : Int)) - (x.f5.size : Int)),ev_bind e1 (ev_neg n1 (ev_neg (by rw [x2];exact n2) (ev_neg (by rw [x2,x3];exact n3) (ev_neg (by rw [x2,x3,x4];exact n4) (ev_neg (by rw [x2,x3,x4,x5];exact n5) ((by rw [x2,x3,x4,x5];exact ev_now _))))))),by omega,fun _ => ⟨s1 (by omega),by omega,by omega,by omega,by omega⟩⟩
end Go.Proofs.YtacaelfdmlegdaaGreatDoor.U
namespace Go.Proofs.YtacaelfdmlegdaaGreatDoor.U
open Go.RowKit Go.Proofs.YtacaelfdmlegdaaGreatDoor.Pr Go.Proofs.YtacaelfdmlegdaaGreatDoorW.PrintWords Go.Proofs.YtacaelfdmlegdaaGreatDoorW.PrintLast Go.Proofs.YtacaelfdmlegdaaGreatDoorW.PrintMore
set_option linter.unusedVariables false
set_option linter.unusedSimpArgs false
theorem toRelabelS (l : List (S25)) (hl : (l.length ≤ 1048576 ∧ ∀ y ∈ l,sm25 y)) : Ev (fun k => laws_toRelabelS.f k l) (l.map cv25):=by
 obtain ⟨hl,hs⟩:=hl
 unfold laws_toRelabelS.f
 repeat (first|(with_reducible refine ev_pos (by first|omega|rfl|decide) ?_)|(with_reducible refine ev_neg (by first|omega|decide) ?_))
 have key:=ev_copy (F:=fun k y i => laws_toRelabelS.l0 k l y i) cv25 l (List.replicate ((l.length : Int) : Int).toNat z32) (by simp) ?step ?done
 case step =>
  intro i h y r hy hr
  refine ev_step (fun _ => laws_toRelabelS.l0.eq_2 ..) ?_
  repeat (first|(with_reducible refine ev_pos (by first|omega|rfl|decide) ?_)|(with_reducible refine ev_neg (by first|omega|decide) ?_))
  rw [(show rd_T25 l (i : Int) = l[i] from getD_lt h)]
  refine ev_bind (toRelabel l[i] (hs _ (List.getElem_mem h))) ?_
  repeat (first|(with_reducible refine ev_pos (by first|omega|rfl|decide) ?_)|(with_reducible refine ev_neg (by first|omega|decide) ?_))
  rw [w64n h (by omega),Int.toNat_natCast]
  exact hr
 case done =>
  intro y hy
  refine ev_step (fun _ => laws_toRelabelS.l0.eq_2 ..) ?_
  repeat (first|(with_reducible refine ev_pos (by first|omega|rfl|decide) ?_)|(with_reducible refine ev_neg (by first|omega|decide) ?_))
  exact ev_now _
 exact key
theorem eqRelabelS (l : List (S32)) (hl : l.length ≤ 1048576) (hs : ∀ x ∈ l,se32 x) : Ev (fun k => laws_eqRelabelS.f k l l) true:=by
 unfold laws_eqRelabelS.f
 refine ev_pos rfl ?_
 refine up_ind l.length (fun i => Ev (fun k => laws_eqRelabelS.l0 k l l (i : Int)) true) ?_ ?_ 0 (by omega)
 ·refine ev_step (fun _ => laws_eqRelabelS.l0.eq_2 ..) ?_
  refine ev_neg (by omega) ?_
  exact ev_now _
 ·intro i h ih
  refine ev_step (fun _ => laws_eqRelabelS.l0.eq_2 ..) ?_
  repeat (first|(with_reducible refine ev_pos (by first|omega|rfl|decide) ?_)|(with_reducible refine ev_neg (by first|omega|decide) ?_))
  rw [(show rd_T32 l (i : Int) = l[i] from getD_lt h)]
  refine ev_bind (eqRelabel l[i] (hs _ (List.getElem_mem h))) ?_
  refine ev_pos rfl ?_
  rw [w64n h (by omega)]
  exact ih
theorem szRelabelS (l : List (S25)) (c : Int) (h0 : 0 ≤ c) (h1 : c ≤ 1048576) (hl : l.length ≤ maxLen) (hw : ∀ x ∈ l,sw25 x) : ∃ r,Ev (fun k => laws_szRelabelS.f k l c) r ∧ r ≤ c ∧ (0 ≤ r → (l.length ≤ 1048576 ∧ ∀ y ∈ l,sm25 y)):=by
 simp only [maxLen] at hl
 unfold laws_szRelabelS.f
 rw [w64 (x:=c - (l.length : Int)) (by omega) (by omega)]
 by_cases hn : c - (l.length : Int) < 0
 ·exact ⟨-1,ev_pos hn (ev_now _),by omega,fun h => absurd h (by decide)⟩
 ·have key:=up_ind l.length (fun i => ∀ c : Int,0 ≤ c → c ≤ 1048576 → ∃ r,Ev (fun k => laws_szRelabelS.l0 k l c (i : Int)) r ∧ r ≤ c ∧ (0 ≤ r → ∀ j (h : j < l.length),i ≤ j → sm25 l[j])) ?d ?s 0 (by omega) (c - (l.length : Int)) (by omega) (by omega)
  case d => exact fun c h0 h1 => ⟨c,ev_step (fun _ => laws_szRelabelS.l0.eq_2 ..) (ev_neg (by omega) (ev_now _)),Int.le_refl _,fun _ j h hj => by omega⟩
  case s =>
   intro i h ih c h0 h1
   obtain ⟨r1,e1,hr1,hs1⟩:=szRelabel l[i] c h0 h1 (hw _ (List.getElem_mem h))
   by_cases hr : r1 < 0
   ·refine ⟨-1,ev_step (fun _ => laws_szRelabelS.l0.eq_2 ..) ?_,by omega,fun h => absurd h (by decide)⟩
    repeat (first|(with_reducible refine ev_pos (by first|omega|rfl|decide) ?_)|(with_reducible refine ev_neg (by first|omega|decide) ?_))
    rw [(show rd_T25 l (i : Int) = l[i] from getD_lt h)]
    exact ev_bind e1 (ev_pos hr (ev_now _))
   ·obtain ⟨r,e,hrc,hs⟩:=ih (r1) (by omega) (by omega)
    refine ⟨r,ev_step (fun _ => laws_szRelabelS.l0.eq_2 ..) ?_,by omega,fun h2 j hj hij => ?_⟩
    ·repeat (first|(with_reducible refine ev_pos (by first|omega|rfl|decide) ?_)|(with_reducible refine ev_neg (by first|omega|decide) ?_))
     rw [(show rd_T25 l (i : Int) = l[i] from getD_lt h)]
     refine ev_bind e1 (ev_neg hr ?_)
     rw [w64n h (by omega)]
     exact e
    ·by_cases ej : j = i
     ·subst ej
      exact hs1 (by omega)
     ·exact hs h2 j hj (by omega)
  obtain ⟨r,e,hrc,hs⟩:=key
  refine ⟨r,ev_neg hn e,by omega,fun h => ⟨by omega,fun y hy => ?_⟩⟩
  obtain ⟨j,hj,rfl⟩:=List.getElem_of_mem hy
  exact hs h j hj (by omega)
end Go.Proofs.YtacaelfdmlegdaaGreatDoor.U
namespace Go.Proofs.YtacaelfdmlegdaaGreatDoor.U
open Go.RowKit Go.Proofs.YtacaelfdmlegdaaGreatDoor.Pr Go.Proofs.YtacaelfdmlegdaaGreatDoorW.PrintWords Go.Proofs.YtacaelfdmlegdaaGreatDoorW.PrintLast Go.Proofs.YtacaelfdmlegdaaGreatDoorW.PrintMore
set_option linter.unusedVariables false
set_option linter.unusedSimpArgs false
theorem fitL_cv (l : List S49) (h : l.length ≤ 1048576 ∧ ∀ x ∈ l,sm49 x) : fitL (l.map cv49):=by
 refine ⟨by rw [List.length_map];omega,fun x hx => ?_⟩
 obtain ⟨y,hy,rfl⟩:=List.mem_map.1 hx
 obtain ⟨h1,h2⟩:=h.2 y hy
 exact ⟨by show y.f0.size ≤ _;omega,by show y.f1.size ≤ _;omega⟩
end Go.Proofs.YtacaelfdmlegdaaGreatDoor.U
namespace Go.Proofs.YtacaelfdmlegdaaGreatDoor.U
open Go.RowKit Go.Proofs.YtacaelfdmlegdaaGreatDoor.Pr Go.Proofs.YtacaelfdmlegdaaGreatDoorW.PrintWords Go.Proofs.YtacaelfdmlegdaaGreatDoorW.PrintLast Go.Proofs.YtacaelfdmlegdaaGreatDoorW.PrintMore
set_option linter.unusedVariables false
set_option linter.unusedSimpArgs false
def relEv (x : S32) (b : Bool) : Prop:=Ev (fun k => impl_GoodRelabel.f k x.f0 x.f1 x.f2 x.f3 x.f4 x.f5 x.f6) b
noncomputable def relB (x : S32) : Bool:=@decide (relEv x true) (Classical.propDecidable _)
def fitR (x : S32) : Prop:=(x.f1.length ≤ 9223372036854775807 ∧ ∀ y ∈ x.f1,y.size ≤ 9223372036854775807) ∧ x.f2.size ≤ 9223372036854775807 ∧ x.f3.size ≤ 9223372036854775807 ∧ x.f4.size ≤ 9223372036854775807 ∧ x.f5.size ≤ 4611686018427387904
theorem relB_two (x : S32) (h : fitR x) : relEv x (relB x) ∧ Ev (fun k => spec_GoodRelabel.f k x.f0 x.f1 x.f2 x.f3 x.f4 x.f5 x.f6) (relB x):=by
 obtain ⟨h1,h2,h3,h4,h5⟩:=h
 obtain ⟨v,e1,e2⟩:=rel_two x.f0 x.f1 x.f2 x.f3 x.f4 x.f5 x.f6 h5 h4 h3 h2 h1
 have : relB x = v:=by
  unfold relB
  cases v with
  | true => exact @decide_eq_true _ (Classical.propDecidable _) e1
  | false => exact @decide_eq_false _ (Classical.propDecidable _) (fun h => Bool.noConfusion (ev_one h e1))
 rw [this]
 exact ⟨e1,e2⟩
def fitRs (l : List S32) : Prop:=l.length ≤ 9223372036854775807 ∧ ∀ x ∈ l,fitR x
noncomputable def rulesB (l : List S32) : Bool:=decide (l.length ≤ 30) && l.all relB
theorem rules_spec (l : List S32) (hf : fitRs l) : Ev (fun k => spec_l4Rules.f k l) (rulesB l):=by
 have hrd : ∀ (i : Nat) (h : i < l.length),rd_T32 l (i : Int) = l[i]:=fun i h => getD_lt h
 unfold spec_l4Rules.f rulesB
 refine ev_ite (fun h => ?_) (fun h => ?_)
 ·rw [decide_eq_false (by omega),Bool.false_and];exact ev_now _
 ·rw [decide_eq_true (by omega),Bool.true_and]
  refine up_ind l.length (fun i => Ev (fun k => spec_l4Rules.l0 k l (l.length : Int) (i : Int)) ((l.drop i).all relB)) ?_ ?_ 0 (by omega)
  ·rw [List.drop_length]
   exact ev_step (fun _ => spec_l4Rules.l0.eq_2 ..) (ev_neg (by omega) (ev_now _))
  ·intro i h ih
   refine ev_step (fun _ => spec_l4Rules.l0.eq_2 ..) (ev_pos (by omega) (ev_pos (by omega) (ev_pos (by omega) ?_)))
   rw [hrd i h,List.drop_eq_getElem_cons h,List.all_cons,w64n h (by omega)]
   refine ev_bind (relB_two l[i] (hf.2 _ (List.getElem_mem h))).2 (ev_ite (fun h1 => ?_) (fun h1 => ?_))
   ·rw [h1,Bool.true_and];exact ih
   ·rw [Bool.eq_false_iff.2 h1,Bool.false_and];exact ev_now _
theorem fitRs_cv (l : List S25) (h : l.length ≤ 1048576 ∧ ∀ x ∈ l,sm25 x) : fitRs (l.map cv25):=by
 refine ⟨by rw [List.length_map];omega,fun x hx => ?_⟩
 obtain ⟨y,hy,rfl⟩:=List.mem_map.1 hx
 obtain ⟨⟨h0,h1⟩,h2,h3,h4,h5⟩:=h.2 y hy
 exact ⟨⟨by show y.f1.length ≤ _;omega,fun z hz => by have:=h1 z hz;omega⟩,by show y.f2.size ≤ _;omega,by show y.f3.size ≤ _;omega,by show y.f4.size ≤ _;omega,by show y.f5.size ≤ _;omega⟩
theorem seR_cv (l : List S25) (h : l.length ≤ 1048576 ∧ ∀ x ∈ l,sm25 x) : ∀ x ∈ l.map cv25,se32 x:=by
 intro x hx
 obtain ⟨y,hy,rfl⟩:=List.mem_map.1 hx
 exact (h.2 y hy).1.1
section
variable (l : List S49) (ev li : Int) (ho : Bool) (rs : List S25)
end
end Go.Proofs.YtacaelfdmlegdaaGreatDoor.U
namespace Go.Proofs.YtacaelfdmlegdaaGreatDoor.U
open Go.RowKit Go.Proofs.YtacaelfdmlegdaaGreatDoor.Pr Go.Proofs.YtacaelfdmlegdaaGreatDoorW.PrintWords Go.Proofs.YtacaelfdmlegdaaGreatDoorW.PrintLast Go.Proofs.YtacaelfdmlegdaaGreatDoorW.PrintMore
set_option linter.unusedVariables false
set_option linter.unusedSimpArgs false
theorem mark_strings (n : Nat) (hn : n ≤ 9000000000000000000) : ∀ (d i : Nat) (x : List ByteArray) (c : Int),x.length = n → i + d = n → 0 < c → c + d ≤ 9000000000000000000 → ∃ y,Ev (fun k => laws_markStringS.l0 k x c (i : Int)) (c + d,y):=by
 intro d
 induction d with
 | zero =>
  intro i x c hx hi h0 h1
  refine ⟨x,ev_step (fun _ => laws_markStringS.l0.eq_2 ..) (ev_neg (by omega) ?_)⟩
  rw [show c + ((0 : Nat) : Int) = c from by omega]
  exact ev_now _
 | succ d ih =>
  intro i x c hx hi h0 h1
  obtain ⟨s,es⟩:=markText c h0 (by omega)
  obtain ⟨y,e⟩:=ih (i + 1) (x.set i s) (c + 1) (by simp [hx]) (by omega) (by omega) (by omega)
  refine ⟨y,ev_step (fun _ => laws_markStringS.l0.eq_2 ..) (ev_pos (by omega) (ev_bind es (ev_pos (by omega) ?_)))⟩
  rw [w64 (x:=c + 1) (by omega) (by omega),w64n (show i < n from by omega) (by omega),Int.toNat_natCast,show c + ((d + 1 : Nat) : Int) = c + 1 + (d : Int) from by omega]
  exact e
end Go.Proofs.YtacaelfdmlegdaaGreatDoor.U
namespace Go.Proofs.YtacaelfdmlegdaaGreatDoor.U
open Go.RowKit Go.Proofs.YtacaelfdmlegdaaGreatDoor.Pr Go.Proofs.YtacaelfdmlegdaaGreatDoorW.PrintWords Go.Proofs.YtacaelfdmlegdaaGreatDoorW.PrintLast Go.Proofs.YtacaelfdmlegdaaGreatDoorW.PrintMore
set_option linter.unusedVariables false
set_option linter.unusedSimpArgs false
theorem mark_rules (n : Nat) (hn : n ≤ 1048576) : ∀ (d i : Nat) (x : List S32) (c : Int),x.length = n → i + d = n → (∀ r ∈ x.drop i,r.f1.length ≤ 1048576) → 0 < c → c + 1048582 * d ≤ 9000000000000000000 → ∃ y c',Ev (fun k => laws_markRelabelS.l0 k x c (i : Int)) (c',y) ∧ c ≤ c':=by
 intro d
 induction d with
 | zero =>
  intro i x c hx hi hr h0 h1
  exact ⟨x,c,ev_step (fun _ => laws_markRelabelS.l0.eq_2 ..) (ev_neg (by omega) (ev_now _)),by omega⟩
 | succ d ih =>
  intro i x c hx hi hr h0 h1
  have hix : i < x.length:=by omega
  have hrd : rd_T32 x (i : Int) = x[i]:=getD_lt hix
  rw [List.drop_eq_getElem_cons hix] at hr
  have hf:=hr x[i] List.mem_cons_self
  have hr':=fun r h => hr r (List.mem_cons_of_mem _ h)
  obtain ⟨y1,e1⟩:=mark_strings x[i].f1.length (by omega) x[i].f1.length 0 x[i].f1 (c + 1) rfl (by omega) (by omega) (by omega)
  obtain ⟨m,hm⟩ : ∃ m : Int,m = c + 1 + (x[i].f1.length : Int):=⟨_,rfl⟩
  rw [← hm] at e1
  obtain ⟨t2,e2⟩:=markText m (by omega) (by omega)
  obtain ⟨t3,e3⟩:=markText (m + 1) (by omega) (by omega)
  obtain ⟨t4,e4⟩:=markText (m + 2) (by omega) (by omega)
  obtain ⟨t5,e5⟩:=markText (m + 3) (by omega) (by omega)
  obtain ⟨y,c',e,hc⟩:=ih (i + 1) (x.set i ⟨c,y1,t2,t3,t4,t5,m + 4⟩) (m + 5) (by simp [hx]) (by omega) (by rw [List.drop_set_of_lt (by omega)];exact hr') (by omega) (by omega)
  refine ⟨y,c',ev_step (fun _ => laws_markRelabelS.l0.eq_2 ..) (ev_pos (by omega) (ev_pos (by omega) ?_)),by omega⟩
  rw [hrd,w64 (x:=c + 1) (by omega) (by omega),w64n (show i < n from by omega) (by omega),Int.toNat_natCast]
  refine ev_bind (a:=(m,y1)) (by unfold laws_markStringS.f;exact e1) ?_
  dsimp only
  rw [w64 (x:=m + 1) (by omega) (by omega),show m + 1 + 1 = m + 2 from by omega,w64 (x:=m + 2) (by omega) (by omega),show m + 2 + 1 = m + 3 from by omega,w64 (x:=m + 3) (by omega) (by omega),show m + 3 + 1 = m + 4 from by omega,w64 (x:=m + 4) (by omega) (by omega),show m + 4 + 1 = m + 5 from by omega,w64 (x:=m + 5) (by omega) (by omega)]
  exact ev_bind e2 (ev_bind e3 (ev_bind e4 (ev_bind e5 e)))
end Go.Proofs.YtacaelfdmlegdaaGreatDoor.U
