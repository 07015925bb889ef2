/- Functions of the given program as plain Lean functions, and that the machine's calls come to them; written by a program of this session; no condition but those that each theorem states. -/
import Derived.Test.YtknlgignjbghkaaDoorShelf
import Derived.Test.YtknlgignjbghkaaDoorWRepsOne
import Derived.Test.YtknlgignjbghkaaDoorPrx0
import Derived.Test.YtknlgignjbghkaaDoorPrxg2cfb1n1
import Derived.Test.YtknlgignjbghkaaDoorPrxged182n3
namespace Go.Proofs.YtknlgignjbghkaaDoor.Pr
open Go.RowKit Go.Proofs.YtknlgignjbghkaaDoorW.PrintWords Go.Proofs.YtknlgignjbghkaaDoorW.PrintLast Go.Proofs.YtknlgignjbghkaaDoorW.PrintMore
attribute [local go_sem] max2_int min2_int max_two min_two max_three min_three max_four min_four   -- for this text's walks alone
set_option linter.unusedVariables false
set_option linter.unusedSimpArgs false

/-! ### impl_isFilling: function 65 -/
def impl_isFilling.l0 : Nat → ByteArray → Int → Option (Bool)
 | 0, _, _ => none
 | k + 1, x0, x3 => if x3 < (x0.size : Int) then (if 0 ≤ x3 then (if (bt x0 x3) = 36 then (if (wrap64 (x3 + 1)) = (x0.size : Int) then (some false) else (if 0 ≤ (wrap64 (x3 + 1)) then (if (wrap64 (x3 + 1)) < (x0.size : Int) then (if (bt x0 (wrap64 (x3 + 1))) = 36 then (impl_isFilling.l0 k x0 (wrap64 ((wrap64 (x3 + 1)) + 1))) else (if (bt x0 (wrap64 (x3 + 1))) < 49 then (some false) else (if (bt x0 (wrap64 (x3 + 1))) > 57 then (some false) else (impl_isFilling.l0 k x0 (wrap64 ((wrap64 (x3 + 1)) + 1)))))) else (none)) else (none))) else (impl_isFilling.l0 k x0 (wrap64 (x3 + 1)))) else (none)) else (some true)
def impl_isFilling.f (k : Nat) (a0 : ByteArray) : Option (Bool) := (impl_printed.f k a0 100).bind fun t1001 => (if t1001 = true then (impl_isFilling.l0 k a0 0) else (some false))
theorem impl_isFilling.mono_l : ∀ k, (∀ y0 y1, LeO (impl_isFilling.l0 k y0 y1) (impl_isFilling.l0 (k + 1) y0 y1))
 | 0 => fun _ _ r h => by simp [impl_isFilling.l0] at h
 | k + 1 => by
  have ih0 := impl_isFilling.mono_l k
  ·intro y0 y1
   unfold impl_isFilling.l0
   repeat' first
   | with_reducible first | exact ih0 _ _ | exact impl_printed.mono _ _ _ | exact LeO.refl _ | exact LeO.none _ | refine LeO.ite ?_ ?_ | refine LeO.bind ?_ (fun _ => ?_)
   | exact ih0 _ _
   | exact impl_printed.mono _ _ _
   | exact LeO.none _
   | refine LeO.ite ?_ ?_
   | refine LeO.bind ?_ (fun _ => ?_)
theorem impl_isFilling.mono : ∀ a0 k, LeO (impl_isFilling.f k a0) (impl_isFilling.f (k + 1) a0) := by
 intro a0 k
 have ih0 := impl_isFilling.mono_l k
 unfold impl_isFilling.f
 repeat' first
   | with_reducible first | exact ih0 _ _ | exact impl_printed.mono _ _ _ | exact LeO.refl _ | exact LeO.none _ | refine LeO.ite ?_ ?_ | refine LeO.bind ?_ (fun _ => ?_)
   | exact ih0 _ _
   | exact impl_printed.mono _ _ _
   | exact LeO.none _
   | refine LeO.ite ?_ ?_
   | refine LeO.bind ?_ (fun _ => ?_)
set_option maxHeartbeats 8000000 in
set_option maxRecDepth 100000 in
theorem impl_isFilling.calls (k : Nat) (a0 : ByteArray) (r : Bool) (w : World) (h : impl_isFilling.f k a0 = some r) :
  Calls Tryd.prog 65 #[.string a0] w fun e w' => e = .returned (.bool r) ∧ Drawn0 w w' := by
 have H : ((impl_printed.f k a0 100).bind fun t1001 => (if t1001 = true then (impl_isFilling.l0 k a0 0) else (some false))) = some r := h
 clear h
 replace H := Option.bind_eq_some_iff.mp H
 obtain ⟨t1001, A20, H⟩ := H
 replace H : (if t1001 = true then (impl_isFilling.l0 k a0 0) else (some false)) = some r := H
 have A2 := am_ A20
 clear A20
 by_cases c3 : t1001 = true
 ·subst c3
  have H1 : (impl_isFilling.l0 k a0 0) = some r := by rw [if_pos rfl] at H; exact H
  clear H
  have H := H1
  clear H1
  have H' := am_ H
  clear H
  go_enter Tryd.func65, Tryd.ntmps65
  go_wp2_with (first | ((with_reducible refine gate_callee (f := 62) rfl ?_); refine goesL_ (some 5) rfl rfl Tryd.func62 (by kernel_rfl) rfl #[.string a0, .int .i64 100] rfl ag_ ?_; (with_reducible refine (impl_printed.calls k a0 100 true _ A2.out).mono ?_); rintro e w' ⟨rfl, ⟨nd, rfl⟩⟩; refine ⟨_, rfl, ?_⟩))
  go_loopg [3] k (fun kq v3 w' => ∃ (x3_1 : Int), v3 = .int .i64 x3_1 ∧ Aside0 (impl_isFilling.l0 kq a0 x3_1 = some r) ∧ Aside0 (kq ≤ k) ∧ Drawn0 w w')
  case atStart => exact ⟨(0), rs_, H', ⟨Nat.le_refl _⟩, by repeat (first | exact Drawn0.refl _ | apply Drawn0.step)⟩
  case round =>
   clear H'
   try clear p2
   try clear c3
   obtain ⟨x3_1, rfl, HA, HK1, ⟨m1, rfl⟩⟩ := hrel
   cases gk with
   | zero => exact absurd HA.out (by simp [impl_isFilling.l0])
   | succ k1 =>
    have H := HA.out
    clear HA
    simp only [impl_isFilling.l0] at H
    by_cases c4 : x3_1 < (a0.size : Int)
    ·rw [if_pos c4] at H
     have c4b0 : decide (x3_1 < (a0.size : Int)) = true := decide_eq_true c4
     clear c4
     by_cases c5 : 0 ≤ x3_1
     ·rw [if_pos c5] at H
      have c5b0 : decide (0 ≤ x3_1) = true := decide_eq_true c5
      clear c5
      by_cases c7 : (bt a0 x3_1) = 36
      ·rw [if_pos c7] at H
       have c7b0 : ((bt a0 x3_1) == 36) = true := beq_iff_eq.mpr c7
       have c7b1 : ((bt a0 x3_1) != 36) = false := bne_eq_false_iff_eq.mpr c7
       clear c7
       by_cases c8 : (wrap64 (x3_1 + 1)) = (a0.size : Int)
       ·rw [if_pos c8] at H
        have c8b0 : ((wrap64 (x3_1 + 1)) == (a0.size : Int)) = true := beq_iff_eq.mpr c8
        have c8b1 : ((wrap64 (x3_1 + 1)) != (a0.size : Int)) = false := bne_eq_false_iff_eq.mpr c8
        clear c8
        obtain rfl := Option.some.inj H
        have p6 : 0 ≤ (x3_1 : Int) := od_
        have q6 : x3_1 < (a0.size : Int) := od_
        have hx6 := bt_at a0 x3_1
        replace p6 := eq_true p6
        replace q6 := eq_true q6
        go_wp2
        go_ret
        exact ⟨by first | rfl | (simp; done) | (simp [*]; done), by repeat (first | exact Drawn0.refl _ | apply Drawn0.step)⟩
       ·rw [if_neg c8] at H
        have c8b0 : ((wrap64 (x3_1 + 1)) == (a0.size : Int)) = false := beq_eq_false_iff_ne.mpr c8
        have c8b1 : ((wrap64 (x3_1 + 1)) != (a0.size : Int)) = true := bne_iff_ne.mpr c8
        obtain ⟨ji9, hji9⟩ : ∃ j_ : Int, (wrap64 (x3_1 + 1)) = j_ := ⟨_, rfl⟩
        replace H : (if 0 ≤ (ji9) then (if (ji9) < (a0.size : Int) then (if (bt a0 (ji9)) = 36 then (impl_isFilling.l0 k1 a0 (wrap64 ((ji9) + 1))) else (if (bt a0 (ji9)) < 49 then (some false) else (if (bt a0 (ji9)) > 57 then (some false) else (impl_isFilling.l0 k1 a0 (wrap64 ((ji9) + 1)))))) else (none)) else (none)) = some r := by first | (rw [hji9] at H; exact H) | (simp only [hji9] at H ⊢; exact H)
        (try rw [hji9] at c8b0)
        (try rw [hji9] at c8b1)
        have hji9w : (IntKind.i64.wrap (x3_1 + 1)) = ji9 := (i64_w _).trans hji9
        by_cases c10 : 0 ≤ (ji9)
        ·rw [if_pos c10] at H
         have c10b0 : decide (0 ≤ (ji9)) = true := decide_eq_true c10
         clear c10
         by_cases c11 : (ji9) < (a0.size : Int)
         ·rw [if_pos c11] at H
          have c11b0 : decide ((ji9) < (a0.size : Int)) = true := decide_eq_true c11
          clear c11
          by_cases c13 : (bt a0 (ji9)) = 36
          ·rw [if_pos c13] at H
           have c13b0 : ((bt a0 (ji9)) == 36) = true := beq_iff_eq.mpr c13
           have c13b1 : ((bt a0 (ji9)) != 36) = false := bne_eq_false_iff_eq.mpr c13
           clear c13
           have H' := am_ H
           clear H
           have p6 : 0 ≤ (x3_1 : Int) := od_
           have q6 : x3_1 < (a0.size : Int) := od_
           have hx6 := bt_at a0 x3_1
           replace p6 := eq_true p6
           replace q6 := eq_true q6
           have p12 : 0 ≤ ((ji9) : Int) := od_
           have q12 : (ji9) < (a0.size : Int) := od_
           have hx12 := bt_at a0 (ji9)
           replace p12 := eq_true p12
           replace q12 := eq_true q12
           go_wp2
           go_roundg k1
           case measure => have := HK1.out; omega
           case rel => exact ⟨(wrap64 ((ji9) + 1)), (by first | rfl | (simp; done) | (simp only [← hji9] <;> (first | rfl | simp)) | (simp [*]; done)), (by first | exact H' | (simp only [hji9]; exact H') | (rw [hji9]; exact H')), ⟨by have := HK1.out; omega⟩, by repeat (first | exact Drawn0.refl _ | apply Drawn0.step)⟩
          ·rw [if_neg c13] at H
           have c13b0 : ((bt a0 (ji9)) == 36) = false := beq_eq_false_iff_ne.mpr c13
           have c13b1 : ((bt a0 (ji9)) != 36) = true := bne_iff_ne.mpr c13
           by_cases c15 : (bt a0 (ji9)) < 49
           ·rw [if_pos c15] at H
            have c15b0 : decide ((bt a0 (ji9)) < 49) = true := decide_eq_true c15
            clear c15
            obtain rfl := Option.some.inj H
            have p6 : 0 ≤ (x3_1 : Int) := od_
            have q6 : x3_1 < (a0.size : Int) := od_
            have hx6 := bt_at a0 x3_1
            replace p6 := eq_true p6
            replace q6 := eq_true q6
            have p12 : 0 ≤ ((ji9) : Int) := od_
            have q12 : (ji9) < (a0.size : Int) := od_
            have hx12 := bt_at a0 (ji9)
            replace p12 := eq_true p12
            replace q12 := eq_true q12
            have p14 : 0 ≤ ((ji9) : Int) := od_
            have q14 : (ji9) < (a0.size : Int) := od_
            have hx14 := bt_at a0 (ji9)
            replace p14 := eq_true p14
            replace q14 := eq_true q14
            go_wp2
            go_ret
            exact ⟨by first | rfl | (simp; done) | (simp only [← hji9] <;> (first | rfl | simp)) | (simp [*]; done), by repeat (first | exact Drawn0.refl _ | apply Drawn0.step)⟩
           ·rw [if_neg c15] at H
            have c15b0 : decide ((bt a0 (ji9)) < 49) = false := decide_eq_false c15
            clear c15
            by_cases c17 : (bt a0 (ji9)) > 57
            ·rw [if_pos c17] at H
             have c17b0 : decide (57 < (bt a0 (ji9))) = true := decide_eq_true c17
             clear c17
             obtain rfl := Option.some.inj H
             have p6 : 0 ≤ (x3_1 : Int) := od_
             have q6 : x3_1 < (a0.size : Int) := od_
             have hx6 := bt_at a0 x3_1
             replace p6 := eq_true p6
             replace q6 := eq_true q6
             have p12 : 0 ≤ ((ji9) : Int) := od_
             have q12 : (ji9) < (a0.size : Int) := od_
             have hx12 := bt_at a0 (ji9)
             replace p12 := eq_true p12
             replace q12 := eq_true q12
             have p14 : 0 ≤ ((ji9) : Int) := od_
             have q14 : (ji9) < (a0.size : Int) := od_
             have hx14 := bt_at a0 (ji9)
             replace p14 := eq_true p14
             replace q14 := eq_true q14
             have p16 : 0 ≤ ((ji9) : Int) := od_
             have q16 : (ji9) < (a0.size : Int) := od_
             have hx16 := bt_at a0 (ji9)
             replace p16 := eq_true p16
             replace q16 := eq_true q16
             go_wp2
             go_ret
             exact ⟨by first | rfl | (simp; done) | (simp only [← hji9] <;> (first | rfl | simp)) | (simp [*]; done), by repeat (first | exact Drawn0.refl _ | apply Drawn0.step)⟩
            ·rw [if_neg c17] at H
             have c17b0 : decide (57 < (bt a0 (ji9))) = false := decide_eq_false c17
             clear c17
             have H' := am_ H
             clear H
             have p6 : 0 ≤ (x3_1 : Int) := od_
             have q6 : x3_1 < (a0.size : Int) := od_
             have hx6 := bt_at a0 x3_1
             replace p6 := eq_true p6
             replace q6 := eq_true q6
             have p12 : 0 ≤ ((ji9) : Int) := od_
             have q12 : (ji9) < (a0.size : Int) := od_
             have hx12 := bt_at a0 (ji9)
             replace p12 := eq_true p12
             replace q12 := eq_true q12
             have p14 : 0 ≤ ((ji9) : Int) := od_
             have q14 : (ji9) < (a0.size : Int) := od_
             have hx14 := bt_at a0 (ji9)
             replace p14 := eq_true p14
             replace q14 := eq_true q14
             have p16 : 0 ≤ ((ji9) : Int) := od_
             have q16 : (ji9) < (a0.size : Int) := od_
             have hx16 := bt_at a0 (ji9)
             replace p16 := eq_true p16
             replace q16 := eq_true q16
             go_wp2
             go_roundg k1
             case measure => have := HK1.out; omega
             case rel => exact ⟨(wrap64 ((ji9) + 1)), (by first | rfl | (simp; done) | (simp only [← hji9] <;> (first | rfl | simp)) | (simp [*]; done)), (by first | exact H' | (simp only [hji9]; exact H') | (rw [hji9]; exact H')), ⟨by have := HK1.out; omega⟩, by repeat (first | exact Drawn0.refl _ | apply Drawn0.step)⟩
         ·rw [if_neg c11] at H
          exact absurd H (by simp)
        ·rw [if_neg c10] at H
         exact absurd H (by simp)
      ·rw [if_neg c7] at H
       have c7b0 : ((bt a0 x3_1) == 36) = false := beq_eq_false_iff_ne.mpr c7
       have c7b1 : ((bt a0 x3_1) != 36) = true := bne_iff_ne.mpr c7
       have H' := am_ H
       clear H
       have p6 : 0 ≤ (x3_1 : Int) := od_
       have q6 : x3_1 < (a0.size : Int) := od_
       have hx6 := bt_at a0 x3_1
       replace p6 := eq_true p6
       replace q6 := eq_true q6
       go_wp2
       go_roundg k1
       case measure => have := HK1.out; omega
       case rel => exact ⟨(wrap64 (x3_1 + 1)), rs_, H', ⟨by have := HK1.out; omega⟩, by repeat (first | exact Drawn0.refl _ | apply Drawn0.step)⟩
     ·rw [if_neg c5] at H
      exact absurd H (by simp)
    ·rw [if_neg c4] at H
     have c4b0 : decide (x3_1 < (a0.size : Int)) = false := decide_eq_false c4
     clear c4
     obtain rfl := Option.some.inj H
     go_wp2
     go_ret
     exact ⟨by first | rfl | (simp; done) | (simp [*]; done), by repeat (first | exact Drawn0.refl _ | apply Drawn0.step)⟩
 ·replace c3 := Bool.eq_false_iff.mpr c3
  subst c3
  have H1 : (some false) = some r := by rw [if_neg (show ¬ (false = true) by decide)] at H; exact H
  clear H
  have H := H1
  clear H1
  obtain rfl := Option.some.inj H
  go_enter Tryd.func65, Tryd.ntmps65
  go_wp2_with (first | ((with_reducible refine gate_callee (f := 62) rfl ?_); refine goesL_ (some 5) rfl rfl Tryd.func62 (by kernel_rfl) rfl #[.string a0, .int .i64 100] rfl ag_ ?_; (with_reducible refine (impl_printed.calls k a0 100 false _ A2.out).mono ?_); rintro e w' ⟨rfl, ⟨nd, rfl⟩⟩; refine ⟨_, rfl, ?_⟩))
  go_ret
  exact ⟨by first | rfl | (simp; done) | (simp [*]; done), by repeat (first | exact Drawn0.refl _ | apply Drawn0.step)⟩

/-! ### any_59_60: function 59 -/
def any_59_60.f (k : Nat) (l0 : List ByteArray) : Option Bool := slices_ContainsFunc_string_string.f k (fun x => impl_GoodRelabel_1.f k x) l0
theorem any_59_60.mono : ∀ a0 k, LeO (any_59_60.f k a0) (any_59_60.f (k + 1) a0) := fun a0 k => slices_ContainsFunc_string_string.mono _ _ (fun x => impl_GoodRelabel_1.mono _ _) a0 k
theorem any_59_60.calls (k : Nat) (A0 : Option Addr) (c0 : Nat) (l0 : List ByteArray) (r : Bool) (w : World) (hr0 : Kd.C Kd.string w A0 l0.length l0) (hc0 : l0.length ≤ c0) (h : any_59_60.f k l0 = some r) :
  Calls Tryd.prog 59 #[.slice A0 l0.length c0, .func (.func 60) #[] #[]] w fun e w' => e = .returned (.bool r) ∧ Below w.heap.size w w' :=
 slices_ContainsFunc_string_string.calls k _ 60 (.func (.func 60) #[] #[]) #[] rfl (enters_ Tryd.func60 (by kernel_rfl) rfl) A0 c0 l0 r w hr0 hc0 (by
  intro W x b hW hP
  exact (impl_GoodRelabel_1.calls k x b W hP).mono (fun e w' ⟨h1, nd, h2⟩ => ⟨h1, by rw [h2]; exact pw_below_drewN (Below.refl _ _) nd⟩)) h
/-! ### impl_GoodRelabel: function 35 -/
mutual
def impl_GoodRelabel.j0 : Nat → Int → Bool → Int → List ByteArray → ByteArray → ByteArray → ByteArray → ByteArray → Int → Option (Bool)
 | 0, _, _, _, _, _, _, _, _, _ => none
 | k + 1, x3, x34, x1002000, x1002001, x1002002, x1002003, x1002004, x1002005, x1002006 => if x34 = true then (some false) else ((impl_isOne.f k x3 (([3, 4, 8] : List Int))).bind fun t1008 => (if (t1008 != (x1002004.toList != ([] : List UInt8))) = true then (impl_GoodRelabel.j1 k x3 true x1002000 x1002001 x1002002 x1002003 x1002004 x1002005 x1002006) else (if x1002004.toList = ([] : List UInt8) then (impl_GoodRelabel.j1 k x3 false x1002000 x1002001 x1002002 x1002003 x1002004 x1002005 x1002006) else ((impl_isName.f k x1002004).bind fun t1009 => (impl_GoodRelabel.j1 k x3 (!t1009) x1002000 x1002001 x1002002 x1002003 x1002004 x1002005 x1002006)))))
def impl_GoodRelabel.j1 : Nat → Int → Bool → Int → List ByteArray → ByteArray → ByteArray → ByteArray → ByteArray → Int → Option (Bool)
 | 0, _, _, _, _, _, _, _, _, _ => none
 | k + 1, x3, x52, x1002000, x1002001, x1002002, x1002003, x1002004, x1002005, x1002006 => if x52 = true then (some false) else ((impl_isFilling.f k x1002005).bind fun t1010 => (if t1010 = true then (if x1002005.toList = ([] : List UInt8) then (impl_GoodRelabel.j2 k x3 false x1002000 x1002001 x1002002 x1002003 x1002004 x1002005 x1002006) else ((impl_isOne.f k x3 (([3, 5] : List Int))).bind fun t1014 => (impl_GoodRelabel.j2 k x3 (!t1014) x1002000 x1002001 x1002002 x1002003 x1002004 x1002005 x1002006))) else (impl_GoodRelabel.j2 k x3 true x1002000 x1002001 x1002002 x1002003 x1002004 x1002005 x1002006)))
def impl_GoodRelabel.j2 : Nat → Int → Bool → Int → List ByteArray → ByteArray → ByteArray → ByteArray → ByteArray → Int → Option (Bool)
 | 0, _, _, _, _, _, _, _, _, _ => none
 | k + 1, x3, x67, x1002000, x1002001, x1002002, x1002003, x1002004, x1002005, x1002006 => if x67 = true then (some false) else (if x3 = 4 then (if x1002006 < 1 then (impl_GoodRelabel.j3 k x3 true x1002000 x1002001 x1002002 x1002003 x1002004 x1002005 x1002006) else (if x1002006 > 1000 then (impl_GoodRelabel.j3 k x3 true x1002000 x1002001 x1002002 x1002003 x1002004 x1002005 x1002006) else (impl_GoodRelabel.j3 k x3 false x1002000 x1002001 x1002002 x1002003 x1002004 x1002005 x1002006))) else (impl_GoodRelabel.j3 k x3 (x1002006 != 0) x1002000 x1002001 x1002002 x1002003 x1002004 x1002005 x1002006))
def impl_GoodRelabel.j3 : Nat → Int → Bool → Int → List ByteArray → ByteArray → ByteArray → ByteArray → ByteArray → Int → Option (Bool)
 | 0, _, _, _, _, _, _, _, _, _ => none
 | k + 1, x3, x88, x1002000, x1002001, x1002002, x1002003, x1002004, x1002005, x1002006 => if x88 = true then (some false) else ((impl_isOne.f k x3 (([5, 6, 7] : List Int))).bind fun t1018 => (if t1018 = true then (if (x1002001.length : Int) > 0 then (some false) else (if x1002002.toList = ([] : List UInt8) then (if x1002003.toList = ([] : List UInt8) then (some true) else ((impl_isOne.f k x3 (([4, 8] : List Int))).bind fun t1022 => (some (!t1022)))) else (some false))) else (if x1002003.toList = ([] : List UInt8) then (some true) else ((impl_isOne.f k x3 (([4, 8] : List Int))).bind fun t1026 => (some (!t1026))))))
end
def impl_GoodRelabel.f (k : Nat) (a0_0 : Int) (l0_1 : List ByteArray) (a0_2 : ByteArray) (a0_3 : ByteArray) (a0_4 : ByteArray) (a0_5 : ByteArray) (a0_6 : Int) : Option (Bool) := if a0_0 < 1 then (impl_GoodRelabel.j0 k a0_0 true a0_0 l0_1 a0_2 a0_3 a0_4 a0_5 a0_6) else (if a0_0 > 8 then (impl_GoodRelabel.j0 k a0_0 true a0_0 l0_1 a0_2 a0_3 a0_4 a0_5 a0_6) else (if (l0_1.length : Int) > 10 then (impl_GoodRelabel.j0 k a0_0 true a0_0 l0_1 a0_2 a0_3 a0_4 a0_5 a0_6) else ((any_59_60.f k l0_1).bind fun t1002 => (if t1002 = true then (impl_GoodRelabel.j0 k a0_0 true a0_0 l0_1 a0_2 a0_3 a0_4 a0_5 a0_6) else ((impl_printed.f k a0_2 10).bind fun t1003 => (if t1003 = true then ((impl_GoodPattern.f k a0_3).bind fun t1004 => (impl_GoodRelabel.j0 k a0_0 (!t1004) a0_0 l0_1 a0_2 a0_3 a0_4 a0_5 a0_6)) else (impl_GoodRelabel.j0 k a0_0 true a0_0 l0_1 a0_2 a0_3 a0_4 a0_5 a0_6)))))))
theorem impl_GoodRelabel.mono_l : ∀ k, (∀ y0 y1 y2 y3 y4 y5 y6 y7 y8, LeO (impl_GoodRelabel.j0 k y0 y1 y2 y3 y4 y5 y6 y7 y8) (impl_GoodRelabel.j0 (k + 1) y0 y1 y2 y3 y4 y5 y6 y7 y8)) ∧ (∀ y0 y1 y2 y3 y4 y5 y6 y7 y8, LeO (impl_GoodRelabel.j1 k y0 y1 y2 y3 y4 y5 y6 y7 y8) (impl_GoodRelabel.j1 (k + 1) y0 y1 y2 y3 y4 y5 y6 y7 y8)) ∧ (∀ y0 y1 y2 y3 y4 y5 y6 y7 y8, LeO (impl_GoodRelabel.j2 k y0 y1 y2 y3 y4 y5 y6 y7 y8) (impl_GoodRelabel.j2 (k + 1) y0 y1 y2 y3 y4 y5 y6 y7 y8)) ∧ (∀ y0 y1 y2 y3 y4 y5 y6 y7 y8, LeO (impl_GoodRelabel.j3 k y0 y1 y2 y3 y4 y5 y6 y7 y8) (impl_GoodRelabel.j3 (k + 1) y0 y1 y2 y3 y4 y5 y6 y7 y8))
 | 0 => ⟨fun _ _ _ _ _ _ _ _ _ r h => by simp [impl_GoodRelabel.j0] at h, fun _ _ _ _ _ _ _ _ _ r h => by simp [impl_GoodRelabel.j1] at h, fun _ _ _ _ _ _ _ _ _ r h => by simp [impl_GoodRelabel.j2] at h, fun _ _ _ _ _ _ _ _ _ r h => by simp [impl_GoodRelabel.j3] at h⟩
 | k + 1 => by
  obtain ⟨ih0, ih1, ih2, ih3⟩ := impl_GoodRelabel.mono_l k
  refine ⟨?_, ?_, ?_, ?_⟩
  ·intro y0 y1 y2 y3 y4 y5 y6 y7 y8
   unfold impl_GoodRelabel.j0
   repeat' first
   | with_reducible first | exact ih0 _ _ _ _ _ _ _ _ _ | exact ih1 _ _ _ _ _ _ _ _ _ | exact ih2 _ _ _ _ _ _ _ _ _ | exact ih3 _ _ _ _ _ _ _ _ _ | exact any_59_60.mono _ _ | exact impl_GoodPattern.mono _ _ | exact impl_isFilling.mono _ _ | exact impl_isName.mono _ _ | exact impl_isOne.mono _ _ _ | exact impl_printed.mono _ _ _ | exact LeO.refl _ | exact LeO.none _ | refine LeO.ite ?_ ?_ | refine LeO.bind ?_ (fun _ => ?_)
   | exact ih0 _ _ _ _ _ _ _ _ _
   | exact ih1 _ _ _ _ _ _ _ _ _
   | exact ih2 _ _ _ _ _ _ _ _ _
   | exact ih3 _ _ _ _ _ _ _ _ _
   | exact any_59_60.mono _ _
   | exact impl_GoodPattern.mono _ _
   | exact impl_isFilling.mono _ _
   | exact impl_isName.mono _ _
   | exact impl_isOne.mono _ _ _
   | exact impl_printed.mono _ _ _
   | exact LeO.none _
   | refine LeO.ite ?_ ?_
   | refine LeO.bind ?_ (fun _ => ?_)
  ·intro y0 y1 y2 y3 y4 y5 y6 y7 y8
   unfold impl_GoodRelabel.j1
   repeat' first
   | with_reducible first | exact ih0 _ _ _ _ _ _ _ _ _ | exact ih1 _ _ _ _ _ _ _ _ _ | exact ih2 _ _ _ _ _ _ _ _ _ | exact ih3 _ _ _ _ _ _ _ _ _ | exact any_59_60.mono _ _ | exact impl_GoodPattern.mono _ _ | exact impl_isFilling.mono _ _ | exact impl_isName.mono _ _ | exact impl_isOne.mono _ _ _ | exact impl_printed.mono _ _ _ | exact LeO.refl _ | exact LeO.none _ | refine LeO.ite ?_ ?_ | refine LeO.bind ?_ (fun _ => ?_)
   | exact ih0 _ _ _ _ _ _ _ _ _
   | exact ih1 _ _ _ _ _ _ _ _ _
   | exact ih2 _ _ _ _ _ _ _ _ _
   | exact ih3 _ _ _ _ _ _ _ _ _
   | exact any_59_60.mono _ _
   | exact impl_GoodPattern.mono _ _
   | exact impl_isFilling.mono _ _
   | exact impl_isName.mono _ _
   | exact impl_isOne.mono _ _ _
   | exact impl_printed.mono _ _ _
   | exact LeO.none _
   | refine LeO.ite ?_ ?_
   | refine LeO.bind ?_ (fun _ => ?_)
  ·intro y0 y1 y2 y3 y4 y5 y6 y7 y8
   unfold impl_GoodRelabel.j2
   repeat' first
   | with_reducible first | exact ih0 _ _ _ _ _ _ _ _ _ | exact ih1 _ _ _ _ _ _ _ _ _ | exact ih2 _ _ _ _ _ _ _ _ _ | exact ih3 _ _ _ _ _ _ _ _ _ | exact any_59_60.mono _ _ | exact impl_GoodPattern.mono _ _ | exact impl_isFilling.mono _ _ | exact impl_isName.mono _ _ | exact impl_isOne.mono _ _ _ | exact impl_printed.mono _ _ _ | exact LeO.refl _ | exact LeO.none _ | refine LeO.ite ?_ ?_ | refine LeO.bind ?_ (fun _ => ?_)
   | exact ih0 _ _ _ _ _ _ _ _ _
   | exact ih1 _ _ _ _ _ _ _ _ _
   | exact ih2 _ _ _ _ _ _ _ _ _
   | exact ih3 _ _ _ _ _ _ _ _ _
   | exact any_59_60.mono _ _
   | exact impl_GoodPattern.mono _ _
   | exact impl_isFilling.mono _ _
   | exact impl_isName.mono _ _
   | exact impl_isOne.mono _ _ _
   | exact impl_printed.mono _ _ _
   | exact LeO.none _
   | refine LeO.ite ?_ ?_
   | refine LeO.bind ?_ (fun _ => ?_)
  ·intro y0 y1 y2 y3 y4 y5 y6 y7 y8
   unfold impl_GoodRelabel.j3
   repeat' first
   | with_reducible first | exact ih0 _ _ _ _ _ _ _ _ _ | exact ih1 _ _ _ _ _ _ _ _ _ | exact ih2 _ _ _ _ _ _ _ _ _ | exact ih3 _ _ _ _ _ _ _ _ _ | exact any_59_60.mono _ _ | exact impl_GoodPattern.mono _ _ | exact impl_isFilling.mono _ _ | exact impl_isName.mono _ _ | exact impl_isOne.mono _ _ _ | exact impl_printed.mono _ _ _ | exact LeO.refl _ | exact LeO.none _ | refine LeO.ite ?_ ?_ | refine LeO.bind ?_ (fun _ => ?_)
   | exact ih0 _ _ _ _ _ _ _ _ _
   | exact ih1 _ _ _ _ _ _ _ _ _
   | exact ih2 _ _ _ _ _ _ _ _ _
   | exact ih3 _ _ _ _ _ _ _ _ _
   | exact any_59_60.mono _ _
   | exact impl_GoodPattern.mono _ _
   | exact impl_isFilling.mono _ _
   | exact impl_isName.mono _ _
   | exact impl_isOne.mono _ _ _
   | exact impl_printed.mono _ _ _
   | exact LeO.none _
   | refine LeO.ite ?_ ?_
   | refine LeO.bind ?_ (fun _ => ?_)
theorem impl_GoodRelabel.mono : ∀ a0 a1 a2 a3 a4 a5 a6 k, LeO (impl_GoodRelabel.f k a0 a1 a2 a3 a4 a5 a6) (impl_GoodRelabel.f (k + 1) a0 a1 a2 a3 a4 a5 a6) := by
 intro a0 a1 a2 a3 a4 a5 a6 k
 obtain ⟨ih0, ih1, ih2, ih3⟩ := impl_GoodRelabel.mono_l k
 unfold impl_GoodRelabel.f
 repeat' first
   | with_reducible first | exact ih0 _ _ _ _ _ _ _ _ _ | exact ih1 _ _ _ _ _ _ _ _ _ | exact ih2 _ _ _ _ _ _ _ _ _ | exact ih3 _ _ _ _ _ _ _ _ _ | exact any_59_60.mono _ _ | exact impl_GoodPattern.mono _ _ | exact impl_isFilling.mono _ _ | exact impl_isName.mono _ _ | exact impl_isOne.mono _ _ _ | exact impl_printed.mono _ _ _ | exact LeO.refl _ | exact LeO.none _ | refine LeO.ite ?_ ?_ | refine LeO.bind ?_ (fun _ => ?_)
   | exact ih0 _ _ _ _ _ _ _ _ _
   | exact ih1 _ _ _ _ _ _ _ _ _
   | exact ih2 _ _ _ _ _ _ _ _ _
   | exact ih3 _ _ _ _ _ _ _ _ _
   | exact any_59_60.mono _ _
   | exact impl_GoodPattern.mono _ _
   | exact impl_isFilling.mono _ _
   | exact impl_isName.mono _ _
   | exact impl_isOne.mono _ _ _
   | exact impl_printed.mono _ _ _
   | exact LeO.none _
   | refine LeO.ite ?_ ?_
   | refine LeO.bind ?_ (fun _ => ?_)
def impl_GoodRelabel.T4 : Bool × List (List Nat × List Nat) := (true, [([], []), ([], []), ([0, 1], [0, 1]), ([], []), ([3], [3]), ([4], [4]), ([2, 5], [2, 5]), ([6, 2], [6]), ([7], [7]), ([8, 7], [7, 8]), ([9, 7], [7, 9]), ([10, 7, 7], [7, 10]), ([11], [11]), ([12, 11], [11, 12]), ([13, 11, 11], [11, 13]), ([14, 11], [11, 14]), ([11, 15, 7], [7, 11, 15]), ([7, 16], [7, 16])])
def impl_GoodRelabel.B4 : List Nat := [0, 0, 3, 0, 8, 24, 63, 127, 255, 511, 1023, 2047, 4095, 8191, 16383, 32767, 65535, 131071]
theorem impl_GoodRelabel.tab4 : rtab .any (opsOf Tryd.f35 4) = impl_GoodRelabel.T4 := by kernel_rfl
theorem impl_GoodRelabel.bits4 : waitsOk impl_GoodRelabel.T4.2 impl_GoodRelabel.B4 = true := by kernel_rfl
set_option maxHeartbeats 8000000 in
set_option maxRecDepth 100000 in
theorem impl_GoodRelabel.calls (k : Nat) (a0_0 : Int) (A0_1 : Option Addr) (c0_1 : Nat) (l0_1 : List ByteArray) (a0_2 : ByteArray) (a0_3 : ByteArray) (a0_4 : ByteArray) (a0_5 : ByteArray) (a0_6 : Int) (r : Bool) (w : World) (hr0_1 : Kd.C Kd.string w A0_1 l0_1.length l0_1) (hc0_1 : l0_1.length ≤ c0_1) (h : impl_GoodRelabel.f k a0_0 l0_1 a0_2 a0_3 a0_4 a0_5 a0_6 = some r) :
  Calls Tryd.prog 35 #[.agg #[.int .i64 a0_0, .slice A0_1 l0_1.length c0_1, .string a0_2, .string a0_3, .string a0_4, .string a0_5, .int .i64 a0_6]] w fun e w' => e = .returned (.bool r) ∧ Below w.heap.size w w' := by
 have hu38 := Tryd.underlying38
 have HR0_1 := am_ hr0_1
 have HC0_1 := am_ hc0_1
 clear hr0_1 hc0_1
 have HB := am_ (Below.refl w.heap.size w)
 have H : (if a0_0 < 1 then (impl_GoodRelabel.j0 k a0_0 true a0_0 l0_1 a0_2 a0_3 a0_4 a0_5 a0_6) else (if a0_0 > 8 then (impl_GoodRelabel.j0 k a0_0 true a0_0 l0_1 a0_2 a0_3 a0_4 a0_5 a0_6) else (if (l0_1.length : Int) > 10 then (impl_GoodRelabel.j0 k a0_0 true a0_0 l0_1 a0_2 a0_3 a0_4 a0_5 a0_6) else ((any_59_60.f k l0_1).bind fun t1002 => (if t1002 = true then (impl_GoodRelabel.j0 k a0_0 true a0_0 l0_1 a0_2 a0_3 a0_4 a0_5 a0_6) else ((impl_printed.f k a0_2 10).bind fun t1003 => (if t1003 = true then ((impl_GoodPattern.f k a0_3).bind fun t1004 => (impl_GoodRelabel.j0 k a0_0 (!t1004) a0_0 l0_1 a0_2 a0_3 a0_4 a0_5 a0_6)) else (impl_GoodRelabel.j0 k a0_0 true a0_0 l0_1 a0_2 a0_3 a0_4 a0_5 a0_6)))))))) = some r := h
 clear h
 have HC2 := am_ H
 clear H
 go_enter Tryd.func35, Tryd.ntmps35
 go_upto_region 2 with (first | ((with_reducible refine gate_dst (N := 1) rfl ?_); (try (refine gate_guard (by rfl) ?_; dsimp only)); refine bx_ 1 #[.int .i64 a0_0, .slice A0_1 l0_1.length c0_1, .string a0_2, .string a0_3, .string a0_4, .string a0_5, .int .i64 a0_6] 38 ?_; intro gb1001 hg w3 hbox hb; have BK1001 := am_ (hbox); have GW1001 := am_ (gs_ hg : w.heap.size ≤ gb1001); replace HB := am_ (below_step bl_ hb); have GE1001 := GW1001; clear hb hbox hg; have hcz4_0 : w3.cell? ⟨gb1001, 0, none⟩ = some (.int .i64 a0_0) := (blk_cell BK1001.out 0).trans rfl; have hcz4_1 : w3.cell? ⟨gb1001, 1, none⟩ = some (.slice A0_1 l0_1.length c0_1) := (blk_cell BK1001.out 1).trans rfl; have hcz4_2 : w3.cell? ⟨gb1001, 2, none⟩ = some (.string a0_2) := (blk_cell BK1001.out 2).trans rfl; have hcz4_3 : w3.cell? ⟨gb1001, 3, none⟩ = some (.string a0_3) := (blk_cell BK1001.out 3).trans rfl; have hcz4_4 : w3.cell? ⟨gb1001, 4, none⟩ = some (.string a0_4) := (blk_cell BK1001.out 4).trans rfl; have hcz4_5 : w3.cell? ⟨gb1001, 5, none⟩ = some (.string a0_5) := (blk_cell BK1001.out 5).trans rfl; have hcz4_6 : w3.cell? ⟨gb1001, 6, none⟩ = some (.int .i64 a0_6) := (blk_cell BK1001.out 6).trans rfl; have hfz4_0 := bf_ BK1001 0; have hfz4_1 := bf_ BK1001 1; have hfz4_2 := bf_ BK1001 2; have hfz4_3 := bf_ BK1001 3; have hfz4_4 := bf_ BK1001 4; have hfz4_5 := bf_ BK1001 5; have hfz4_6 := bf_ BK1001 6))
 (try simp only [Act.put, List.setIfInBounds_toArray, List.set_cons_zero, List.set_cons_succ])
 go_cut [34] (fun v34 wc => ∃ (kq : Nat) (x34_1 : Bool), v34 = .bool x34_1 ∧ Aside0 (impl_GoodRelabel.j0 kq a0_0 x34_1 a0_0 l0_1 a0_2 a0_3 a0_4 a0_5 a0_6 = some r) ∧ Aside0 (kq ≤ k) ∧ Aside0 (wc.heap[gb1001]? = some (.cells #[.int .i64 a0_0, (.slice A0_1 l0_1.length c0_1), .string a0_2, .string a0_3, .string a0_4, .string a0_5, .int .i64 a0_6] 38 (0, 0))) ∧ Aside0 (Below w.heap.size w wc))
 case first =>
  have H := HC2.out
  clear HC2
  by_cases c5 : a0_0 < 1
  ·rw [if_pos c5] at H
   have c5b0 : decide (a0_0 < 1) = true := decide_eq_true c5
   clear c5
   (first | rw [c5b0] | (simp only [i64_w, i32_w]; rw [c5b0]) | skip)
   have H' := am_ H
   clear H
   go_wp2
   go_meet
   case rel => exact ⟨_, (true), rs_, H', ⟨by first | omega | exact Nat.le_refl _⟩, ⟨vk_ BK1001⟩, ⟨bg_⟩⟩
  ·rw [if_neg c5] at H
   have c5b0 : decide (a0_0 < 1) = false := decide_eq_false c5
   clear c5
   (first | rw [c5b0] | (simp only [i64_w, i32_w]; rw [c5b0]) | skip)
   by_cases c6 : a0_0 > 8
   ·rw [if_pos c6] at H
    have c6b0 : decide (8 < a0_0) = true := decide_eq_true c6
    clear c6
    have H' := am_ H
    clear H
    go_wp2
    go_meet
    case rel => exact ⟨_, (true), rs_, H', ⟨by first | omega | exact Nat.le_refl _⟩, ⟨vk_ BK1001⟩, ⟨bg_⟩⟩
   ·rw [if_neg c6] at H
    have c6b0 : decide (8 < a0_0) = false := decide_eq_false c6
    clear c6
    by_cases c7 : (l0_1.length : Int) > 10
    ·rw [if_pos c7] at H
     have c7b0 : decide (10 < (l0_1.length : Int)) = true := decide_eq_true c7
     have c7b1 : decide (10 < l0_1.length) = true := decide_eq_true (by omega)
     clear c7
     have H' := am_ H
     clear H
     have hcz8_0 : w3.cell? ⟨gb1001, 0, none⟩ = some (.int .i64 a0_0) := (blk_cell BK1001.out 0).trans rfl
     have hcz8_1 : w3.cell? ⟨gb1001, 1, none⟩ = some (.slice A0_1 l0_1.length c0_1) := (blk_cell BK1001.out 1).trans rfl
     have hcz8_2 : w3.cell? ⟨gb1001, 2, none⟩ = some (.string a0_2) := (blk_cell BK1001.out 2).trans rfl
     have hcz8_3 : w3.cell? ⟨gb1001, 3, none⟩ = some (.string a0_3) := (blk_cell BK1001.out 3).trans rfl
     have hcz8_4 : w3.cell? ⟨gb1001, 4, none⟩ = some (.string a0_4) := (blk_cell BK1001.out 4).trans rfl
     have hcz8_5 : w3.cell? ⟨gb1001, 5, none⟩ = some (.string a0_5) := (blk_cell BK1001.out 5).trans rfl
     have hcz8_6 : w3.cell? ⟨gb1001, 6, none⟩ = some (.int .i64 a0_6) := (blk_cell BK1001.out 6).trans rfl
     have hfz8_0 := bf_ BK1001 0
     have hfz8_1 := bf_ BK1001 1
     have hfz8_2 := bf_ BK1001 2
     have hfz8_3 := bf_ BK1001 3
     have hfz8_4 := bf_ BK1001 4
     have hfz8_5 := bf_ BK1001 5
     have hfz8_6 := bf_ BK1001 6
     go_wp2
     go_meet
     case rel => exact ⟨_, (true), rs_, H', ⟨by first | omega | exact Nat.le_refl _⟩, ⟨vk_ BK1001⟩, ⟨bg_⟩⟩
    ·rw [if_neg c7] at H
     have c7b0 : decide (10 < (l0_1.length : Int)) = false := decide_eq_false c7
     have c7b1 : decide (10 < l0_1.length) = false := decide_eq_false (by omega)
     clear c7
     replace H := Option.bind_eq_some_iff.mp H
     obtain ⟨t1002, A90, H⟩ := H
     replace H : (if t1002 = true then (impl_GoodRelabel.j0 k a0_0 true a0_0 l0_1 a0_2 a0_3 a0_4 a0_5 a0_6) else ((impl_printed.f k a0_2 10).bind fun t1003 => (if t1003 = true then ((impl_GoodPattern.f k a0_3).bind fun t1004 => (impl_GoodRelabel.j0 k a0_0 (!t1004) a0_0 l0_1 a0_2 a0_3 a0_4 a0_5 a0_6)) else (impl_GoodRelabel.j0 k a0_0 true a0_0 l0_1 a0_2 a0_3 a0_4 a0_5 a0_6)))) = some r := H
     have A9 := am_ A90
     clear A90
     by_cases c10 : t1002 = true
     ·subst c10
      have H1 : (impl_GoodRelabel.j0 k a0_0 true a0_0 l0_1 a0_2 a0_3 a0_4 a0_5 a0_6) = some r := by rw [if_pos rfl] at H; exact H
      clear H
      have H := H1
      clear H1
      have H' := am_ H
      clear H
      have hcz11_0 : w3.cell? ⟨gb1001, 0, none⟩ = some (.int .i64 a0_0) := (blk_cell BK1001.out 0).trans rfl
      have hcz11_1 : w3.cell? ⟨gb1001, 1, none⟩ = some (.slice A0_1 l0_1.length c0_1) := (blk_cell BK1001.out 1).trans rfl
      have hcz11_2 : w3.cell? ⟨gb1001, 2, none⟩ = some (.string a0_2) := (blk_cell BK1001.out 2).trans rfl
      have hcz11_3 : w3.cell? ⟨gb1001, 3, none⟩ = some (.string a0_3) := (blk_cell BK1001.out 3).trans rfl
      have hcz11_4 : w3.cell? ⟨gb1001, 4, none⟩ = some (.string a0_4) := (blk_cell BK1001.out 4).trans rfl
      have hcz11_5 : w3.cell? ⟨gb1001, 5, none⟩ = some (.string a0_5) := (blk_cell BK1001.out 5).trans rfl
      have hcz11_6 : w3.cell? ⟨gb1001, 6, none⟩ = some (.int .i64 a0_6) := (blk_cell BK1001.out 6).trans rfl
      have hfz11_0 := bf_ BK1001 0
      have hfz11_1 := bf_ BK1001 1
      have hfz11_2 := bf_ BK1001 2
      have hfz11_3 := bf_ BK1001 3
      have hfz11_4 := bf_ BK1001 4
      have hfz11_5 := bf_ BK1001 5
      have hfz11_6 := bf_ BK1001 6
      go_wp2_with (first | (go_at_call 59; (with_reducible refine (any_59_60.calls k _ _ l0_1 true _ ?side1 ?side2 A9.out).mono ?_); (case side1 => exact cc_ (Kd.C_below HR0_1.out HB.out)); (case side2 => exact HC0_1.out); rintro e w12 ⟨rfl, hb⟩; replace BK1001 := am_ (blk_below (g := gb1001) (vk_ BK1001) hb); replace HB := am_ (below_step bg_ hb); (try clear hb); (try clear hb2); (try clear hk); (try clear hi)))
      go_meet
      case rel => exact ⟨_, (true), rs_, H', ⟨by first | omega | exact Nat.le_refl _⟩, ⟨vk_ BK1001⟩, ⟨bg_⟩⟩
     ·replace c10 := Bool.eq_false_iff.mpr c10
      subst c10
      have H1 : ((impl_printed.f k a0_2 10).bind fun t1003 => (if t1003 = true then ((impl_GoodPattern.f k a0_3).bind fun t1004 => (impl_GoodRelabel.j0 k a0_0 (!t1004) a0_0 l0_1 a0_2 a0_3 a0_4 a0_5 a0_6)) else (impl_GoodRelabel.j0 k a0_0 true a0_0 l0_1 a0_2 a0_3 a0_4 a0_5 a0_6))) = some r := by rw [if_neg (show ¬ (false = true) by decide)] at H; exact H
      clear H
      have H := H1
      clear H1
      replace H := Option.bind_eq_some_iff.mp H
      obtain ⟨t1003, A130, H⟩ := H
      replace H : (if t1003 = true then ((impl_GoodPattern.f k a0_3).bind fun t1004 => (impl_GoodRelabel.j0 k a0_0 (!t1004) a0_0 l0_1 a0_2 a0_3 a0_4 a0_5 a0_6)) else (impl_GoodRelabel.j0 k a0_0 true a0_0 l0_1 a0_2 a0_3 a0_4 a0_5 a0_6)) = some r := H
      have A13 := am_ A130
      clear A130
      by_cases c14 : t1003 = true
      ·subst c14
       have H1 : ((impl_GoodPattern.f k a0_3).bind fun t1004 => (impl_GoodRelabel.j0 k a0_0 (!t1004) a0_0 l0_1 a0_2 a0_3 a0_4 a0_5 a0_6)) = some r := by rw [if_pos rfl] at H; exact H
       clear H
       have H := H1
       clear H1
       replace H := Option.bind_eq_some_iff.mp H
       obtain ⟨t1004, A150, H⟩ := H
       replace H : (impl_GoodRelabel.j0 k a0_0 (!t1004) a0_0 l0_1 a0_2 a0_3 a0_4 a0_5 a0_6) = some r := H
       have A15 := am_ A150
       clear A150
       have H' := am_ H
       clear H
       have hcz16_0 : w3.cell? ⟨gb1001, 0, none⟩ = some (.int .i64 a0_0) := (blk_cell BK1001.out 0).trans rfl
       have hcz16_1 : w3.cell? ⟨gb1001, 1, none⟩ = some (.slice A0_1 l0_1.length c0_1) := (blk_cell BK1001.out 1).trans rfl
       have hcz16_2 : w3.cell? ⟨gb1001, 2, none⟩ = some (.string a0_2) := (blk_cell BK1001.out 2).trans rfl
       have hcz16_3 : w3.cell? ⟨gb1001, 3, none⟩ = some (.string a0_3) := (blk_cell BK1001.out 3).trans rfl
       have hcz16_4 : w3.cell? ⟨gb1001, 4, none⟩ = some (.string a0_4) := (blk_cell BK1001.out 4).trans rfl
       have hcz16_5 : w3.cell? ⟨gb1001, 5, none⟩ = some (.string a0_5) := (blk_cell BK1001.out 5).trans rfl
       have hcz16_6 : w3.cell? ⟨gb1001, 6, none⟩ = some (.int .i64 a0_6) := (blk_cell BK1001.out 6).trans rfl
       have hfz16_0 := bf_ BK1001 0
       have hfz16_1 := bf_ BK1001 1
       have hfz16_2 := bf_ BK1001 2
       have hfz16_3 := bf_ BK1001 3
       have hfz16_4 := bf_ BK1001 4
       have hfz16_5 := bf_ BK1001 5
       have hfz16_6 := bf_ BK1001 6
       go_wp2_with (first | (go_at_call 59; (with_reducible refine (any_59_60.calls k _ _ l0_1 false _ ?side1 ?side2 A9.out).mono ?_); (case side1 => exact cc_ (Kd.C_below HR0_1.out HB.out)); (case side2 => exact HC0_1.out); rintro e w17 ⟨rfl, hb⟩; replace BK1001 := am_ (blk_below (g := gb1001) (vk_ BK1001) hb); replace HB := am_ (below_step bg_ hb); (try clear hb); (try clear hb2); (try clear hk); (try clear hi); have hcz18_0 : w17.cell? ⟨gb1001, 0, none⟩ = some (.int .i64 a0_0) := (blk_cell BK1001.out 0).trans rfl; have hcz18_1 : w17.cell? ⟨gb1001, 1, none⟩ = some (.slice A0_1 l0_1.length c0_1) := (blk_cell BK1001.out 1).trans rfl; have hcz18_2 : w17.cell? ⟨gb1001, 2, none⟩ = some (.string a0_2) := (blk_cell BK1001.out 2).trans rfl; have hcz18_3 : w17.cell? ⟨gb1001, 3, none⟩ = some (.string a0_3) := (blk_cell BK1001.out 3).trans rfl; have hcz18_4 : w17.cell? ⟨gb1001, 4, none⟩ = some (.string a0_4) := (blk_cell BK1001.out 4).trans rfl; have hcz18_5 : w17.cell? ⟨gb1001, 5, none⟩ = some (.string a0_5) := (blk_cell BK1001.out 5).trans rfl; have hcz18_6 : w17.cell? ⟨gb1001, 6, none⟩ = some (.int .i64 a0_6) := (blk_cell BK1001.out 6).trans rfl; have hfz18_0 := bf_ BK1001 0; have hfz18_1 := bf_ BK1001 1; have hfz18_2 := bf_ BK1001 2; have hfz18_3 := bf_ BK1001 3; have hfz18_4 := bf_ BK1001 4; have hfz18_5 := bf_ BK1001 5; have hfz18_6 := bf_ BK1001 6) | (go_at_call 62; (with_reducible refine (impl_printed.calls k a0_2 10 true _ A13.out).mono ?_); rintro e w' ⟨rfl, ⟨nd, rfl⟩⟩) | (go_at_call 63; (with_reducible refine (impl_GoodPattern.calls k a0_3 t1004 _ A15.out).mono ?_); rintro e w19 ⟨rfl, hb⟩; replace BK1001 := am_ (blk_below (g := gb1001) (vk_ BK1001) hb); replace HB := am_ (below_step bg_ hb); (try clear hb); (try clear hb2); (try clear hk); (try clear hi)))
       go_meet
       case rel => exact ⟨_, (!t1004), rs_, H', ⟨by first | omega | exact Nat.le_refl _⟩, ⟨vk_ BK1001⟩, ⟨bg_⟩⟩
      ·replace c14 := Bool.eq_false_iff.mpr c14
       subst c14
       have H1 : (impl_GoodRelabel.j0 k a0_0 true a0_0 l0_1 a0_2 a0_3 a0_4 a0_5 a0_6) = some r := by rw [if_neg (show ¬ (false = true) by decide)] at H; exact H
       clear H
       have H := H1
       clear H1
       have H' := am_ H
       clear H
       have hcz20_0 : w3.cell? ⟨gb1001, 0, none⟩ = some (.int .i64 a0_0) := (blk_cell BK1001.out 0).trans rfl
       have hcz20_1 : w3.cell? ⟨gb1001, 1, none⟩ = some (.slice A0_1 l0_1.length c0_1) := (blk_cell BK1001.out 1).trans rfl
       have hcz20_2 : w3.cell? ⟨gb1001, 2, none⟩ = some (.string a0_2) := (blk_cell BK1001.out 2).trans rfl
       have hcz20_3 : w3.cell? ⟨gb1001, 3, none⟩ = some (.string a0_3) := (blk_cell BK1001.out 3).trans rfl
       have hcz20_4 : w3.cell? ⟨gb1001, 4, none⟩ = some (.string a0_4) := (blk_cell BK1001.out 4).trans rfl
       have hcz20_5 : w3.cell? ⟨gb1001, 5, none⟩ = some (.string a0_5) := (blk_cell BK1001.out 5).trans rfl
       have hcz20_6 : w3.cell? ⟨gb1001, 6, none⟩ = some (.int .i64 a0_6) := (blk_cell BK1001.out 6).trans rfl
       have hfz20_0 := bf_ BK1001 0
       have hfz20_1 := bf_ BK1001 1
       have hfz20_2 := bf_ BK1001 2
       have hfz20_3 := bf_ BK1001 3
       have hfz20_4 := bf_ BK1001 4
       have hfz20_5 := bf_ BK1001 5
       have hfz20_6 := bf_ BK1001 6
       go_wp2_with (first | (go_at_call 59; (with_reducible refine (any_59_60.calls k _ _ l0_1 false _ ?side1 ?side2 A9.out).mono ?_); (case side1 => exact cc_ (Kd.C_below HR0_1.out HB.out)); (case side2 => exact HC0_1.out); rintro e w21 ⟨rfl, hb⟩; replace BK1001 := am_ (blk_below (g := gb1001) (vk_ BK1001) hb); replace HB := am_ (below_step bg_ hb); (try clear hb); (try clear hb2); (try clear hk); (try clear hi); have hcz22_0 : w21.cell? ⟨gb1001, 0, none⟩ = some (.int .i64 a0_0) := (blk_cell BK1001.out 0).trans rfl; have hcz22_1 : w21.cell? ⟨gb1001, 1, none⟩ = some (.slice A0_1 l0_1.length c0_1) := (blk_cell BK1001.out 1).trans rfl; have hcz22_2 : w21.cell? ⟨gb1001, 2, none⟩ = some (.string a0_2) := (blk_cell BK1001.out 2).trans rfl; have hcz22_3 : w21.cell? ⟨gb1001, 3, none⟩ = some (.string a0_3) := (blk_cell BK1001.out 3).trans rfl; have hcz22_4 : w21.cell? ⟨gb1001, 4, none⟩ = some (.string a0_4) := (blk_cell BK1001.out 4).trans rfl; have hcz22_5 : w21.cell? ⟨gb1001, 5, none⟩ = some (.string a0_5) := (blk_cell BK1001.out 5).trans rfl; have hcz22_6 : w21.cell? ⟨gb1001, 6, none⟩ = some (.int .i64 a0_6) := (blk_cell BK1001.out 6).trans rfl; have hfz22_0 := bf_ BK1001 0; have hfz22_1 := bf_ BK1001 1; have hfz22_2 := bf_ BK1001 2; have hfz22_3 := bf_ BK1001 3; have hfz22_4 := bf_ BK1001 4; have hfz22_5 := bf_ BK1001 5; have hfz22_6 := bf_ BK1001 6) | (go_at_call 62; (with_reducible refine (impl_printed.calls k a0_2 10 false _ A13.out).mono ?_); rintro e w' ⟨rfl, ⟨nd, rfl⟩⟩))
       go_meet
       case rel => exact ⟨_, (true), rs_, H', ⟨by first | omega | exact Nat.le_refl _⟩, ⟨vk_ BK1001⟩, ⟨bg_⟩⟩
 case rest =>
  clear HC2
  try clear c1
  try clear p2
  try clear c3
  try clear c5
  try clear c5b0
  try clear c6
  try clear c6b0
  try clear c7
  try clear c7b0
  try clear c7b1
  try clear c10
  try clear c14
  try clear hcz11_0
  try clear hcz11_1
  try clear hcz11_2
  try clear hcz11_3
  try clear hcz11_4
  try clear hcz11_5
  try clear hcz11_6
  try clear hcz16_0
  try clear hcz16_1
  try clear hcz16_2
  try clear hcz16_3
  try clear hcz16_4
  try clear hcz16_5
  try clear hcz16_6
  try clear hcz18_0
  try clear hcz18_1
  try clear hcz18_2
  try clear hcz18_3
  try clear hcz18_4
  try clear hcz18_5
  try clear hcz18_6
  try clear hcz20_0
  try clear hcz20_1
  try clear hcz20_2
  try clear hcz20_3
  try clear hcz20_4
  try clear hcz20_5
  try clear hcz20_6
  try clear hcz22_0
  try clear hcz22_1
  try clear hcz22_2
  try clear hcz22_3
  try clear hcz22_4
  try clear hcz22_5
  try clear hcz22_6
  try clear hcz4_0
  try clear hcz4_1
  try clear hcz4_2
  try clear hcz4_3
  try clear hcz4_4
  try clear hcz4_5
  try clear hcz4_6
  try clear hcz8_0
  try clear hcz8_1
  try clear hcz8_2
  try clear hcz8_3
  try clear hcz8_4
  try clear hcz8_5
  try clear hcz8_6
  try clear hfz11_0
  try clear hfz11_1
  try clear hfz11_2
  try clear hfz11_3
  try clear hfz11_4
  try clear hfz11_5
  try clear hfz11_6
  try clear hfz16_0
  try clear hfz16_1
  try clear hfz16_2
  try clear hfz16_3
  try clear hfz16_4
  try clear hfz16_5
  try clear hfz16_6
  try clear hfz18_0
  try clear hfz18_1
  try clear hfz18_2
  try clear hfz18_3
  try clear hfz18_4
  try clear hfz18_5
  try clear hfz18_6
  try clear hfz20_0
  try clear hfz20_1
  try clear hfz20_2
  try clear hfz20_3
  try clear hfz20_4
  try clear hfz20_5
  try clear hfz20_6
  try clear hfz22_0
  try clear hfz22_1
  try clear hfz22_2
  try clear hfz22_3
  try clear hfz22_4
  try clear hfz22_5
  try clear hfz22_6
  try clear hfz4_0
  try clear hfz4_1
  try clear hfz4_2
  try clear hfz4_3
  try clear hfz4_4
  try clear hfz4_5
  try clear hfz4_6
  try clear hfz8_0
  try clear hfz8_1
  try clear hfz8_2
  try clear hfz8_3
  try clear hfz8_4
  try clear hfz8_5
  try clear hfz8_6
  obtain ⟨kq, x34_1, rfl, HA, HJ1, BK1001, HB⟩ := hcut
  cases kq with
  | zero => exact absurd HA.out (by simp [impl_GoodRelabel.j0])
  | succ kj1 =>
   have H := HA.out
   clear HA
   simp only [impl_GoodRelabel.j0] at H
   by_cases c23 : x34_1 = true
   ·subst c23
    have H1 : (some false) = some r := by rw [if_pos rfl] at H; exact H
    clear H
    have H := H1
    clear H1
    obtain rfl := Option.some.inj H
    go_wp2
    go_ret
    exact ⟨rf_, bg_⟩
   ·replace c23 := Bool.eq_false_iff.mpr c23
    subst c23
    have H1 : ((impl_isOne.f kj1 a0_0 (([3, 4, 8] : List Int))).bind fun t1008 => (if (t1008 != (a0_4.toList != ([] : List UInt8))) = true then (impl_GoodRelabel.j1 kj1 a0_0 true a0_0 l0_1 a0_2 a0_3 a0_4 a0_5 a0_6) else (if a0_4.toList = ([] : List UInt8) then (impl_GoodRelabel.j1 kj1 a0_0 false a0_0 l0_1 a0_2 a0_3 a0_4 a0_5 a0_6) else ((impl_isName.f kj1 a0_4).bind fun t1009 => (impl_GoodRelabel.j1 kj1 a0_0 (!t1009) a0_0 l0_1 a0_2 a0_3 a0_4 a0_5 a0_6))))) = some r := by rw [if_neg (show ¬ (false = true) by decide)] at H; exact H
    clear H
    have H := H1
    clear H1
    have HC24 := am_ H
    clear H
    go_upto_region 4 with (fail)
    go_cut [52] (fun v52 wc => ∃ (kq : Nat) (x52_23 : Bool), v52 = .bool x52_23 ∧ Aside0 (impl_GoodRelabel.j1 kq a0_0 x52_23 a0_0 l0_1 a0_2 a0_3 a0_4 a0_5 a0_6 = some r) ∧ Aside0 (kq ≤ kj1) ∧ Aside0 (wc.heap[gb1001]? = some (.cells #[.int .i64 a0_0, (.slice A0_1 l0_1.length c0_1), .string a0_2, .string a0_3, .string a0_4, .string a0_5, .int .i64 a0_6] 38 (0, 0))) ∧ Aside0 (Below w.heap.size w wc))
    case first =>
     have H := HC24.out
     clear HC24
     obtain ⟨y1005, hy1005⟩ : ∃ y_ : List Int, y_ = (([3, 4, 8] : List Int)) := ⟨_, rfl⟩
     replace H : ((impl_isOne.f kj1 a0_0 y1005).bind fun t1008 => (if (t1008 != (a0_4.toList != ([] : List UInt8))) = true then (impl_GoodRelabel.j1 kj1 a0_0 true a0_0 l0_1 a0_2 a0_3 a0_4 a0_5 a0_6) else (if a0_4.toList = ([] : List UInt8) then (impl_GoodRelabel.j1 kj1 a0_0 false a0_0 l0_1 a0_2 a0_3 a0_4 a0_5 a0_6) else ((impl_isName.f kj1 a0_4).bind fun t1009 => (impl_GoodRelabel.j1 kj1 a0_0 (!t1009) a0_0 l0_1 a0_2 a0_3 a0_4 a0_5 a0_6))))) = some r := by first | (rw [hy1005]; with_reducible exact H) | (have H2_ := (Option.bind_some _ _).symm.trans H; rw [hy1005]; with_reducible exact H2_) | (have H2_ := (Option.bind_some _ _).symm.trans H; with_reducible exact H2_) | with_reducible exact H | (rw [hy1005]; exact H) | exact H
     have Ny1005 := am_ hy1005
     clear hy1005
     replace H := Option.bind_eq_some_iff.mp H
     obtain ⟨t1008, A250, H⟩ := H
     replace H : (if (t1008 != (a0_4.toList != ([] : List UInt8))) = true then (impl_GoodRelabel.j1 kj1 a0_0 true a0_0 l0_1 a0_2 a0_3 a0_4 a0_5 a0_6) else (if a0_4.toList = ([] : List UInt8) then (impl_GoodRelabel.j1 kj1 a0_0 false a0_0 l0_1 a0_2 a0_3 a0_4 a0_5 a0_6) else ((impl_isName.f kj1 a0_4).bind fun t1009 => (impl_GoodRelabel.j1 kj1 a0_0 (!t1009) a0_0 l0_1 a0_2 a0_3 a0_4 a0_5 a0_6)))) = some r := H
     have A25 := am_ A250
     clear A250
     by_cases c26 : (t1008 != (a0_4.toList != ([] : List UInt8))) = true
     ·rw [if_pos c26] at H
      have c26b0 : (t1008 != (a0_4.toList != ([] : List UInt8))) = true := c26
      (try (have c26b1 : decide (t1008 = (a0_4.toList != ([] : List UInt8))) = false := by simpa using c26))
      (try (have c26b2 : (t1008 == (a0_4.toList != ([] : List UInt8))) = false := by simpa using c26))
      (try (have c26b2n : (t1008 == !a0_4.toList.isEmpty) = false := by rw [← Go.Proofs.YtknlgignjbghkaaDoor.Gt.nil_bne]; exact c26b2))
      (try (have c26b3 : ¬ (t1008 = (a0_4.toList != ([] : List UInt8))) := by simpa using c26))
      clear c26
      (first | rw [c26b0] | (simp only [i64_w, i32_w]; rw [c26b0]) | skip)
      have H' := am_ H
      clear H
      try go_wp2
      have n0_ := am_ (blk_drew BK1001.out)
      have n1_ := am_ (below_drew1 HB.out)
      clear BK1001
      clear HB
      have BK1001 := n0_
      have HB := n1_
      clear n0_ n1_
      refine start_ (n := 18) (S := fun w' => w'.cell? ⟨gb1001, 0, none⟩ = some (.int .i64 a0_0) ∧ w'.cell? ⟨gb1001, 1, none⟩ = some (.slice A0_1 l0_1.length c0_1) ∧ w'.cell? ⟨gb1001, 2, none⟩ = some (.string a0_2) ∧ w'.cell? ⟨gb1001, 3, none⟩ = some (.string a0_3) ∧ w'.cell? ⟨gb1001, 4, none⟩ = some (.string a0_4) ∧ w'.cell? ⟨gb1001, 5, none⟩ = some (.string a0_5) ∧ w'.cell? ⟨gb1001, 6, none⟩ = some (.int .i64 a0_6)) (ds := []) (bz 18 0) (by kernel_rfl) rfl rfl ⟨(blk_cell BK1001.out 0).trans rfl, (blk_cell BK1001.out 1).trans rfl, (blk_cell BK1001.out 2).trans rfl, (blk_cell BK1001.out 3).trans rfl, (blk_cell BK1001.out 4).trans rfl, (blk_cell BK1001.out 5).trans rfl, (blk_cell BK1001.out 6).trans rfl⟩ (fun hHeld => ?_); refine with_tabW impl_GoodRelabel.tab4 impl_GoodRelabel.bits4 (fun HT_ HW_ => ?_)
      generalize wc.drew = w27 at BK1001 HB hHeld ⊢
      refine pz_ 0 35 1 ?_
      refine pz_ 3 38 9 ?_
      refine tz_ 4 39 25 ?_
      refine pz_ 5 40 57 ?_
      refine one_ (i := 1) (N := some 36) (bz 18 59) rfl rfl (one_of HT_.out (by kernel_rfl)) (by decide) (fun K hK => ?_)
      refine Kd.R_lit_step (Kd.int .i64) _ 3 ?hg (N := 36) ?hd (xs := ([3, 4, 8] : List Int)) (inner := [.int .i64 3, .int .i64 4, .int .i64 8]) (ok := fun _ => True) (okp := fun _ => True) ?hr ?hp (fun _ hk => hk) trivial (Below.refl _ _) (Nat.le_refl _) (by simp) ?_; (case hd => rfl); (case hg => rfl); (case hr => first | (go_simp; done) | (go_simp; rfl)); (case hp => exact (Reps.one (show Kd.M (Kd.int .i64) _ _ _ 3 [.int .i64 3] from rfl) (Reps.one (show Kd.M (Kd.int .i64) _ _ _ 4 [.int .i64 4] from rfl) (Reps.one (show Kd.M (Kd.int .i64) _ _ _ 8 [.int .i64 8] from rfl) (Reps.none _ _)))))
      intro v1006 w28 ho29 hb hg_ hnew_
      clear hg_ hnew_
      (first | rw [← Ny1005.out] at ho29 | (simp only [Int.reduceToNat] at ho29; rw [← Ny1005.out] at ho29))
      have n0_ := am_ (Kd.R_lower ho29 (below_size bg_))
      have n1_ := am_ (blk_below (g := gb1001) (vk_ BK1001) hb)
      have n2_ := am_ (below_step bg_ hb)
      clear BK1001
      clear HB
      have HO1007 := n0_
      have BK1001 := n1_
      have HB := n2_
      clear n0_ n1_ n2_
      clear hb ho29
      obtain ⟨Ao30, co30, eo30⟩ := Kd.R_slice HO1007.out
      (first | subst eo30 | (injection eo30 with f1_ f2_ f3_; have f4_ := f1_.symm; have f5_ := f3_.symm; clear f1_ f2_ f3_; subst f4_; subst f5_))
      refine hK.out _ _ ⟨(blk_cell BK1001.out 0).trans rfl, (blk_cell BK1001.out 1).trans rfl, (blk_cell BK1001.out 2).trans rfl, (blk_cell BK1001.out 3).trans rfl, (blk_cell BK1001.out 4).trans rfl, (blk_cell BK1001.out 5).trans rfl, (blk_cell BK1001.out 6).trans rfl⟩ (fun hHeld => ?_)
      clear hK K
      refine norm_ (a' := ?_) ?_ ?_
      rotate_left
      ·show Act.put _ (some 36) _ = _
       simp only [Act.put, List.setIfInBounds_toArray, List.set_cons_zero, List.set_cons_succ, i64_w, i32_w]
       rfl
      refine one_ (i := 2) (N := some 37) (bz 18 63) rfl rfl (one_of HT_.out (by kernel_rfl)) (by decide) (fun K hK => ?_)
      refine goes_ Tryd.func64 (by kernel_rfl) rfl #[.int .i64 a0_0, .slice Ao30 y1005.length co30] (by rfl) rfl rfl ag_ ?_
      with_reducible refine (impl_isOne.calls kj1 a0_0 _ _ y1005 t1008 _ ?side1 ?side2 A25.out).mono ?_
      (case side1 => exact cc_ (Kd.R_reads' HO1007.out).2.2)
      (case side2 => exact (Kd.R_reads' HO1007.out).2.1)
      rintro e w' ⟨rfl, ⟨nd, rfl⟩⟩
      refine ⟨_, rfl, ?_⟩
      refine hK.out _ _ ⟨(blk_cell BK1001.out 0).trans rfl, (blk_cell BK1001.out 1).trans rfl, (blk_cell BK1001.out 2).trans rfl, (blk_cell BK1001.out 3).trans rfl, (blk_cell BK1001.out 4).trans rfl, (blk_cell BK1001.out 5).trans rfl, (blk_cell BK1001.out 6).trans rfl⟩ (fun hHeld => ?_)
      clear hK K
      refine norm_ (a' := ?_) ?_ ?_
      rotate_left
      ·show Act.put _ (some 37) _ = _
       simp only [Act.put, List.setIfInBounds_toArray, List.set_cons_zero, List.set_cons_succ, i64_w, i32_w]
       rfl
      refine pz_ 6 41 127 ?_
      refine pz_ 7 42 255 ?_
      refine uz_ 8 43 511 ?_
      refine uz_ 9 44 1023 ?_
      refine uz_ 10 45 2047 ?_
      refine uz_ 11 46 4095 ?_
      refine uz_ 12 47 8191 ?_
      refine uz_ 13 48 16383 ?_
      refine uz_ 14 49 32767 ?_
      refine uz_ 15 50 65535 ?_
      refine uz_ 16 51 131071 ?_
      refine pz_ 17 52 262143 ?_
      refine done_ (done_of HT_.out (by kernel_rfl)) ?_
      try go_wp2
      go_meet
      case rel => exact ⟨_, (true), rs_, H', ⟨by have := HJ1.out; first | omega | exact Nat.le_refl _⟩, ⟨vk_ BK1001⟩, ⟨bg_⟩⟩
     ·rw [if_neg c26] at H
      have c26b0 : (t1008 != (a0_4.toList != ([] : List UInt8))) = false := by simpa using c26
      (try (have c26b1 : decide (t1008 = (a0_4.toList != ([] : List UInt8))) = true := by simpa using c26))
      (try (have c26b2 : (t1008 == (a0_4.toList != ([] : List UInt8))) = true := by simpa using c26))
      (try (have c26b2n : (t1008 == !a0_4.toList.isEmpty) = true := by rw [← Go.Proofs.YtknlgignjbghkaaDoor.Gt.nil_bne]; exact c26b2))
      clear c26
      (first | rw [c26b0] | (simp only [i64_w, i32_w]; rw [c26b0]) | skip)
      by_cases c31 : a0_4.toList = ([] : List UInt8)
      ·rw [if_pos c31] at H
       have c31b0 : (a0_4.toList == ([] : List UInt8)) = true := beq_iff_eq.mpr c31
       have c31b1 : (a0_4.toList != ([] : List UInt8)) = false := bne_eq_false_iff_eq.mpr c31
       (try (have c31b1_c26b2 : t1008 = true := by have e_ := c26b2; rw [c31b1] at e_; revert e_; cases t1008 <;> simp))
       (try (have c31b1_c26b2 : t1008 = false := by have e_ := c26b2; rw [c31b1] at e_; revert e_; cases t1008 <;> simp))
       clear c31
       have H' := am_ H
       clear H
       try go_wp2
       have n0_ := am_ (blk_drew BK1001.out)
       have n1_ := am_ (below_drew1 HB.out)
       clear BK1001
       clear HB
       have BK1001 := n0_
       have HB := n1_
       clear n0_ n1_
       refine start_ (n := 18) (S := fun w' => w'.cell? ⟨gb1001, 0, none⟩ = some (.int .i64 a0_0) ∧ w'.cell? ⟨gb1001, 1, none⟩ = some (.slice A0_1 l0_1.length c0_1) ∧ w'.cell? ⟨gb1001, 2, none⟩ = some (.string a0_2) ∧ w'.cell? ⟨gb1001, 3, none⟩ = some (.string a0_3) ∧ w'.cell? ⟨gb1001, 4, none⟩ = some (.string a0_4) ∧ w'.cell? ⟨gb1001, 5, none⟩ = some (.string a0_5) ∧ w'.cell? ⟨gb1001, 6, none⟩ = some (.int .i64 a0_6)) (ds := []) (bz 18 0) (by kernel_rfl) rfl rfl ⟨(blk_cell BK1001.out 0).trans rfl, (blk_cell BK1001.out 1).trans rfl, (blk_cell BK1001.out 2).trans rfl, (blk_cell BK1001.out 3).trans rfl, (blk_cell BK1001.out 4).trans rfl, (blk_cell BK1001.out 5).trans rfl, (blk_cell BK1001.out 6).trans rfl⟩ (fun hHeld => ?_); refine with_tabW impl_GoodRelabel.tab4 impl_GoodRelabel.bits4 (fun HT_ HW_ => ?_)
       generalize wc.drew = w32 at BK1001 HB hHeld ⊢
       refine pz_ 0 35 1 ?_
       refine pz_ 3 38 9 ?_
       refine tz_ 4 39 25 ?_
       refine pz_ 5 40 57 ?_
       refine one_ (i := 1) (N := some 36) (bz 18 59) rfl rfl (one_of HT_.out (by kernel_rfl)) (by decide) (fun K hK => ?_)
       refine Kd.R_lit_step (Kd.int .i64) _ 3 ?hg (N := 36) ?hd (xs := ([3, 4, 8] : List Int)) (inner := [.int .i64 3, .int .i64 4, .int .i64 8]) (ok := fun _ => True) (okp := fun _ => True) ?hr ?hp (fun _ hk => hk) trivial (Below.refl _ _) (Nat.le_refl _) (by simp) ?_; (case hd => rfl); (case hg => rfl); (case hr => first | (go_simp; done) | (go_simp; rfl)); (case hp => exact (Reps.one (show Kd.M (Kd.int .i64) _ _ _ 3 [.int .i64 3] from rfl) (Reps.one (show Kd.M (Kd.int .i64) _ _ _ 4 [.int .i64 4] from rfl) (Reps.one (show Kd.M (Kd.int .i64) _ _ _ 8 [.int .i64 8] from rfl) (Reps.none _ _)))))
       intro v1006 w33 ho34 hb hg_ hnew_
       clear hg_ hnew_
       (first | rw [← Ny1005.out] at ho34 | (simp only [Int.reduceToNat] at ho34; rw [← Ny1005.out] at ho34))
       have n0_ := am_ (Kd.R_lower ho34 (below_size bg_))
       have n1_ := am_ (blk_below (g := gb1001) (vk_ BK1001) hb)
       have n2_ := am_ (below_step bg_ hb)
       clear BK1001
       clear HB
       have HO1007 := n0_
       have BK1001 := n1_
       have HB := n2_
       clear n0_ n1_ n2_
       clear hb ho34
       obtain ⟨Ao35, co35, eo35⟩ := Kd.R_slice HO1007.out
       (first | subst eo35 | (injection eo35 with f1_ f2_ f3_; have f4_ := f1_.symm; have f5_ := f3_.symm; clear f1_ f2_ f3_; subst f4_; subst f5_))
       refine hK.out _ _ ⟨(blk_cell BK1001.out 0).trans rfl, (blk_cell BK1001.out 1).trans rfl, (blk_cell BK1001.out 2).trans rfl, (blk_cell BK1001.out 3).trans rfl, (blk_cell BK1001.out 4).trans rfl, (blk_cell BK1001.out 5).trans rfl, (blk_cell BK1001.out 6).trans rfl⟩ (fun hHeld => ?_)
       clear hK K
       refine norm_ (a' := ?_) ?_ ?_
       rotate_left
       ·show Act.put _ (some 36) _ = _
        simp only [Act.put, List.setIfInBounds_toArray, List.set_cons_zero, List.set_cons_succ, i64_w, i32_w]
        rfl
       refine one_ (i := 2) (N := some 37) (bz 18 63) rfl rfl (one_of HT_.out (by kernel_rfl)) (by decide) (fun K hK => ?_)
       refine goes_ Tryd.func64 (by kernel_rfl) rfl #[.int .i64 a0_0, .slice Ao35 y1005.length co35] (by rfl) rfl rfl ag_ ?_
       with_reducible refine (impl_isOne.calls kj1 a0_0 _ _ y1005 t1008 _ ?side1 ?side2 A25.out).mono ?_
       (case side1 => exact cc_ (Kd.R_reads' HO1007.out).2.2)
       (case side2 => exact (Kd.R_reads' HO1007.out).2.1)
       rintro e w' ⟨rfl, ⟨nd, rfl⟩⟩
       refine ⟨_, rfl, ?_⟩
       refine hK.out _ _ ⟨(blk_cell BK1001.out 0).trans rfl, (blk_cell BK1001.out 1).trans rfl, (blk_cell BK1001.out 2).trans rfl, (blk_cell BK1001.out 3).trans rfl, (blk_cell BK1001.out 4).trans rfl, (blk_cell BK1001.out 5).trans rfl, (blk_cell BK1001.out 6).trans rfl⟩ (fun hHeld => ?_)
       clear hK K
       refine norm_ (a' := ?_) ?_ ?_
       rotate_left
       ·show Act.put _ (some 37) _ = _
        simp only [Act.put, List.setIfInBounds_toArray, List.set_cons_zero, List.set_cons_succ, i64_w, i32_w]
        rfl
       refine pz_ 6 41 127 ?_
       refine pz_ 7 42 255 ?_
       refine pz_ 8 43 511 ?_
       refine tz_ 9 44 1023 ?_
       refine pz_ 10 45 2047 ?_
       refine pz_ 11 46 4095 ?_
       refine uz_ 12 47 8191 ?_
       refine uz_ 13 48 16383 ?_
       refine uz_ 14 49 32767 ?_
       refine uz_ 15 50 65535 ?_
       refine pz_ 16 51 131071 ?_
       refine pz_ 17 52 262143 ?_
       refine done_ (done_of HT_.out (by kernel_rfl)) ?_
       try go_wp2
       go_meet
       case rel => exact ⟨_, (false), rs_, H', ⟨by have := HJ1.out; first | omega | exact Nat.le_refl _⟩, ⟨vk_ BK1001⟩, ⟨bg_⟩⟩
      ·rw [if_neg c31] at H
       have c31b0 : (a0_4.toList == ([] : List UInt8)) = false := beq_eq_false_iff_ne.mpr c31
       have c31b1 : (a0_4.toList != ([] : List UInt8)) = true := bne_iff_ne.mpr c31
       (try (have c31b1_c26b2 : t1008 = true := by have e_ := c26b2; rw [c31b1] at e_; revert e_; cases t1008 <;> simp))
       (try (have c31b1_c26b2 : t1008 = false := by have e_ := c26b2; rw [c31b1] at e_; revert e_; cases t1008 <;> simp))
       replace H := Option.bind_eq_some_iff.mp H
       obtain ⟨t1009, A360, H⟩ := H
       replace H : (impl_GoodRelabel.j1 kj1 a0_0 (!t1009) a0_0 l0_1 a0_2 a0_3 a0_4 a0_5 a0_6) = some r := H
       have A36 := am_ A360
       clear A360
       have H' := am_ H
       clear H
       try go_wp2
       have n0_ := am_ (blk_drew BK1001.out)
       have n1_ := am_ (below_drew1 HB.out)
       clear BK1001
       clear HB
       have BK1001 := n0_
       have HB := n1_
       clear n0_ n1_
       refine start_ (n := 18) (S := fun w' => w'.cell? ⟨gb1001, 0, none⟩ = some (.int .i64 a0_0) ∧ w'.cell? ⟨gb1001, 1, none⟩ = some (.slice A0_1 l0_1.length c0_1) ∧ w'.cell? ⟨gb1001, 2, none⟩ = some (.string a0_2) ∧ w'.cell? ⟨gb1001, 3, none⟩ = some (.string a0_3) ∧ w'.cell? ⟨gb1001, 4, none⟩ = some (.string a0_4) ∧ w'.cell? ⟨gb1001, 5, none⟩ = some (.string a0_5) ∧ w'.cell? ⟨gb1001, 6, none⟩ = some (.int .i64 a0_6)) (ds := []) (bz 18 0) (by kernel_rfl) rfl rfl ⟨(blk_cell BK1001.out 0).trans rfl, (blk_cell BK1001.out 1).trans rfl, (blk_cell BK1001.out 2).trans rfl, (blk_cell BK1001.out 3).trans rfl, (blk_cell BK1001.out 4).trans rfl, (blk_cell BK1001.out 5).trans rfl, (blk_cell BK1001.out 6).trans rfl⟩ (fun hHeld => ?_); refine with_tabW impl_GoodRelabel.tab4 impl_GoodRelabel.bits4 (fun HT_ HW_ => ?_)
       generalize wc.drew = w37 at BK1001 HB hHeld ⊢
       refine pz_ 0 35 1 ?_
       refine pz_ 3 38 9 ?_
       refine tz_ 4 39 25 ?_
       refine pz_ 5 40 57 ?_
       refine one_ (i := 1) (N := some 36) (bz 18 59) rfl rfl (one_of HT_.out (by kernel_rfl)) (by decide) (fun K hK => ?_)
       refine Kd.R_lit_step (Kd.int .i64) _ 3 ?hg (N := 36) ?hd (xs := ([3, 4, 8] : List Int)) (inner := [.int .i64 3, .int .i64 4, .int .i64 8]) (ok := fun _ => True) (okp := fun _ => True) ?hr ?hp (fun _ hk => hk) trivial (Below.refl _ _) (Nat.le_refl _) (by simp) ?_; (case hd => rfl); (case hg => rfl); (case hr => first | (go_simp; done) | (go_simp; rfl)); (case hp => exact (Reps.one (show Kd.M (Kd.int .i64) _ _ _ 3 [.int .i64 3] from rfl) (Reps.one (show Kd.M (Kd.int .i64) _ _ _ 4 [.int .i64 4] from rfl) (Reps.one (show Kd.M (Kd.int .i64) _ _ _ 8 [.int .i64 8] from rfl) (Reps.none _ _)))))
       intro v1006 w38 ho39 hb hg_ hnew_
       clear hg_ hnew_
       (first | rw [← Ny1005.out] at ho39 | (simp only [Int.reduceToNat] at ho39; rw [← Ny1005.out] at ho39))
       have n0_ := am_ (Kd.R_lower ho39 (below_size bg_))
       have n1_ := am_ (blk_below (g := gb1001) (vk_ BK1001) hb)
       have n2_ := am_ (below_step bg_ hb)
       clear BK1001
       clear HB
       have HO1007 := n0_
       have BK1001 := n1_
       have HB := n2_
       clear n0_ n1_ n2_
       clear hb ho39
       obtain ⟨Ao40, co40, eo40⟩ := Kd.R_slice HO1007.out
       (first | subst eo40 | (injection eo40 with f1_ f2_ f3_; have f4_ := f1_.symm; have f5_ := f3_.symm; clear f1_ f2_ f3_; subst f4_; subst f5_))
       refine hK.out _ _ ⟨(blk_cell BK1001.out 0).trans rfl, (blk_cell BK1001.out 1).trans rfl, (blk_cell BK1001.out 2).trans rfl, (blk_cell BK1001.out 3).trans rfl, (blk_cell BK1001.out 4).trans rfl, (blk_cell BK1001.out 5).trans rfl, (blk_cell BK1001.out 6).trans rfl⟩ (fun hHeld => ?_)
       clear hK K
       refine norm_ (a' := ?_) ?_ ?_
       rotate_left
       ·show Act.put _ (some 36) _ = _
        simp only [Act.put, List.setIfInBounds_toArray, List.set_cons_zero, List.set_cons_succ, i64_w, i32_w]
        rfl
       refine one_ (i := 2) (N := some 37) (bz 18 63) rfl rfl (one_of HT_.out (by kernel_rfl)) (by decide) (fun K hK => ?_)
       refine goes_ Tryd.func64 (by kernel_rfl) rfl #[.int .i64 a0_0, .slice Ao40 y1005.length co40] (by rfl) rfl rfl ag_ ?_
       with_reducible refine (impl_isOne.calls kj1 a0_0 _ _ y1005 t1008 _ ?side1 ?side2 A25.out).mono ?_
       (case side1 => exact cc_ (Kd.R_reads' HO1007.out).2.2)
       (case side2 => exact (Kd.R_reads' HO1007.out).2.1)
       rintro e w' ⟨rfl, ⟨nd, rfl⟩⟩
       refine ⟨_, rfl, ?_⟩
       refine hK.out _ _ ⟨(blk_cell BK1001.out 0).trans rfl, (blk_cell BK1001.out 1).trans rfl, (blk_cell BK1001.out 2).trans rfl, (blk_cell BK1001.out 3).trans rfl, (blk_cell BK1001.out 4).trans rfl, (blk_cell BK1001.out 5).trans rfl, (blk_cell BK1001.out 6).trans rfl⟩ (fun hHeld => ?_)
       clear hK K
       refine norm_ (a' := ?_) ?_ ?_
       rotate_left
       ·show Act.put _ (some 37) _ = _
        simp only [Act.put, List.setIfInBounds_toArray, List.set_cons_zero, List.set_cons_succ, i64_w, i32_w]
        rfl
       refine pz_ 6 41 127 ?_
       refine pz_ 7 42 255 ?_
       refine pz_ 8 43 511 ?_
       refine tz_ 9 44 1023 ?_
       refine pz_ 10 45 2047 ?_
       refine pz_ 11 46 4095 ?_
       refine pz_ 12 47 8191 ?_
       refine tz_ 13 48 16383 ?_
       refine one_ (i := 14) (N := some 49) (bz 18 32767) rfl rfl (one_of HT_.out (by kernel_rfl)) (by decide) (fun K hK => ?_)
       refine goes_ Tryd.func61 (by kernel_rfl) rfl #[.string a0_4] (by rfl) rfl rfl ag_ ?_
       with_reducible refine (impl_isName.calls kj1 a0_4 t1009 _ A36.out).mono ?_
       rintro e w' ⟨rfl, ⟨nd, rfl⟩⟩
       refine ⟨_, rfl, ?_⟩
       refine hK.out _ _ ⟨(blk_cell BK1001.out 0).trans rfl, (blk_cell BK1001.out 1).trans rfl, (blk_cell BK1001.out 2).trans rfl, (blk_cell BK1001.out 3).trans rfl, (blk_cell BK1001.out 4).trans rfl, (blk_cell BK1001.out 5).trans rfl, (blk_cell BK1001.out 6).trans rfl⟩ (fun hHeld => ?_)
       clear hK K
       refine norm_ (a' := ?_) ?_ ?_
       rotate_left
       ·show Act.put _ (some 49) _ = _
        simp only [Act.put, List.setIfInBounds_toArray, List.set_cons_zero, List.set_cons_succ, i64_w, i32_w]
        rfl
       refine pz_ 15 50 65535 ?_
       refine pz_ 16 51 131071 ?_
       refine pz_ 17 52 262143 ?_
       refine done_ (done_of HT_.out (by kernel_rfl)) ?_
       try go_wp2
       go_meet
       case rel => exact ⟨_, (!t1009), rs_, H', ⟨by have := HJ1.out; first | omega | exact Nat.le_refl _⟩, ⟨vk_ BK1001⟩, ⟨bg_⟩⟩
    case rest =>
     clear HC24
     try clear c2
     try clear p2
     try clear c3
     try clear c6
     try clear c23
     try clear c26
     try clear c26b0
     try clear c26b1
     try clear c26b2
     try clear c31
     try clear c31b0
     try clear c31b1
     try clear hfz18_1
     try clear hfz18_2
     try clear hfz18_3
     try clear hfz18_4
     try clear hfz18_5
     try clear hfz18_6
     try clear hfz20_0
     try clear hfz20_1
     try clear hfz20_2
     try clear hfz20_3
     try clear hfz20_4
     try clear hfz20_5
     try clear hfz20_6
     try clear hfz22_0
     try clear hfz22_1
     try clear hfz22_2
     try clear hfz22_3
     try clear hfz22_4
     try clear hfz22_5
     try clear hfz22_6
     try clear hfz4_0
     try clear hfz4_1
     try clear hfz4_2
     try clear hfz4_3
     try clear hfz4_4
     try clear hfz4_5
     try clear hfz4_6
     try clear hfz8_0
     try clear hfz8_1
     try clear hfz8_2
     try clear hfz8_3
     try clear hfz8_4
     try clear hfz8_5
     try clear hfz8_6
     obtain ⟨kq, x52_23, rfl, HA, HJ23, BK1001, HB⟩ := hcut
     cases kq with
     | zero => exact absurd HA.out (by simp [impl_GoodRelabel.j1])
     | succ kj23 =>
      have H := HA.out
      clear HA
      simp only [impl_GoodRelabel.j1] at H
      by_cases c41 : x52_23 = true
      ·subst c41
       have H1 : (some false) = some r := by rw [if_pos rfl] at H; exact H
       clear H
       have H := H1
       clear H1
       obtain rfl := Option.some.inj H
       go_wp2
       go_ret
       exact ⟨rf_, bg_⟩
      ·replace c41 := Bool.eq_false_iff.mpr c41
       subst c41
       have H1 : ((impl_isFilling.f kj23 a0_5).bind fun t1010 => (if t1010 = true then (if a0_5.toList = ([] : List UInt8) then (impl_GoodRelabel.j2 kj23 a0_0 false a0_0 l0_1 a0_2 a0_3 a0_4 a0_5 a0_6) else ((impl_isOne.f kj23 a0_0 (([3, 5] : List Int))).bind fun t1014 => (impl_GoodRelabel.j2 kj23 a0_0 (!t1014) a0_0 l0_1 a0_2 a0_3 a0_4 a0_5 a0_6))) else (impl_GoodRelabel.j2 kj23 a0_0 true a0_0 l0_1 a0_2 a0_3 a0_4 a0_5 a0_6))) = some r := by rw [if_neg (show ¬ (false = true) by decide)] at H; exact H
       clear H
       have H := H1
       clear H1
       have HC42 := am_ H
       clear H
       go_upto_region 6 with (fail)
       go_cut [67] (fun v67 wc => ∃ (kq : Nat) (x67_41 : Bool), v67 = .bool x67_41 ∧ Aside0 (impl_GoodRelabel.j2 kq a0_0 x67_41 a0_0 l0_1 a0_2 a0_3 a0_4 a0_5 a0_6 = some r) ∧ Aside0 (kq ≤ kj23) ∧ Aside0 (wc.heap[gb1001]? = some (.cells #[.int .i64 a0_0, (.slice A0_1 l0_1.length c0_1), .string a0_2, .string a0_3, .string a0_4, .string a0_5, .int .i64 a0_6] 38 (0, 0))) ∧ Aside0 (Below w.heap.size w wc))
       case first =>
        have H := HC42.out
        clear HC42
        replace H := Option.bind_eq_some_iff.mp H
        obtain ⟨t1010, A430, H⟩ := H
        replace H : (if t1010 = true then (if a0_5.toList = ([] : List UInt8) then (impl_GoodRelabel.j2 kj23 a0_0 false a0_0 l0_1 a0_2 a0_3 a0_4 a0_5 a0_6) else ((impl_isOne.f kj23 a0_0 (([3, 5] : List Int))).bind fun t1014 => (impl_GoodRelabel.j2 kj23 a0_0 (!t1014) a0_0 l0_1 a0_2 a0_3 a0_4 a0_5 a0_6))) else (impl_GoodRelabel.j2 kj23 a0_0 true a0_0 l0_1 a0_2 a0_3 a0_4 a0_5 a0_6)) = some r := H
        have A43 := am_ A430
        clear A430
        by_cases c44 : t1010 = true
        ·subst c44
         have H1 : (if a0_5.toList = ([] : List UInt8) then (impl_GoodRelabel.j2 kj23 a0_0 false a0_0 l0_1 a0_2 a0_3 a0_4 a0_5 a0_6) else ((impl_isOne.f kj23 a0_0 (([3, 5] : List Int))).bind fun t1014 => (impl_GoodRelabel.j2 kj23 a0_0 (!t1014) a0_0 l0_1 a0_2 a0_3 a0_4 a0_5 a0_6))) = some r := by rw [if_pos rfl] at H; exact H
         clear H
         have H := H1
         clear H1
         by_cases c45 : a0_5.toList = ([] : List UInt8)
         ·rw [if_pos c45] at H
          have c45b0 : (a0_5.toList == ([] : List UInt8)) = true := beq_iff_eq.mpr c45
          have c45b1 : (a0_5.toList != ([] : List UInt8)) = false := bne_eq_false_iff_eq.mpr c45
          clear c45
          (first | rw [c45b0] | (simp only [i64_w, i32_w]; rw [c45b0]) | skip)
          have H' := am_ H
          clear H
          have hcz46_0 : wc.cell? ⟨gb1001, 0, none⟩ = some (.int .i64 a0_0) := (blk_cell BK1001.out 0).trans rfl
          have hcz46_1 : wc.cell? ⟨gb1001, 1, none⟩ = some (.slice A0_1 l0_1.length c0_1) := (blk_cell BK1001.out 1).trans rfl
          have hcz46_2 : wc.cell? ⟨gb1001, 2, none⟩ = some (.string a0_2) := (blk_cell BK1001.out 2).trans rfl
          have hcz46_3 : wc.cell? ⟨gb1001, 3, none⟩ = some (.string a0_3) := (blk_cell BK1001.out 3).trans rfl
          have hcz46_4 : wc.cell? ⟨gb1001, 4, none⟩ = some (.string a0_4) := (blk_cell BK1001.out 4).trans rfl
          have hcz46_5 : wc.cell? ⟨gb1001, 5, none⟩ = some (.string a0_5) := (blk_cell BK1001.out 5).trans rfl
          have hcz46_6 : wc.cell? ⟨gb1001, 6, none⟩ = some (.int .i64 a0_6) := (blk_cell BK1001.out 6).trans rfl
          have hfz46_0 := bf_ BK1001 0
          have hfz46_1 := bf_ BK1001 1
          have hfz46_2 := bf_ BK1001 2
          have hfz46_3 := bf_ BK1001 3
          have hfz46_4 := bf_ BK1001 4
          have hfz46_5 := bf_ BK1001 5
          have hfz46_6 := bf_ BK1001 6
          go_wp2_with (first | ((with_reducible refine gate_callee (f := 65) rfl ?_); refine goesL_ (some 55) rfl rfl Tryd.func65 (by kernel_rfl) rfl #[.string a0_5] rfl ag_ ?_; (with_reducible refine (impl_isFilling.calls kj23 a0_5 true _ A43.out).mono ?_); rintro e w' ⟨rfl, ⟨nd, rfl⟩⟩; refine ⟨_, rfl, ?_⟩))
          go_meet
          case rel => exact ⟨_, (false), rs_, H', ⟨by have := HJ1.out; have := HJ23.out; first | omega | exact Nat.le_refl _⟩, ⟨vk_ BK1001⟩, ⟨bg_⟩⟩
         ·rw [if_neg c45] at H
          have c45b0 : (a0_5.toList == ([] : List UInt8)) = false := beq_eq_false_iff_ne.mpr c45
          have c45b1 : (a0_5.toList != ([] : List UInt8)) = true := bne_iff_ne.mpr c45
          (first | rw [c45b0] | (simp only [i64_w, i32_w]; rw [c45b0]) | skip)
          obtain ⟨y1011, hy1011⟩ : ∃ y_ : List Int, y_ = (([3, 5] : List Int)) := ⟨_, rfl⟩
          replace H : ((impl_isOne.f kj23 a0_0 y1011).bind fun t1014 => (impl_GoodRelabel.j2 kj23 a0_0 (!t1014) a0_0 l0_1 a0_2 a0_3 a0_4 a0_5 a0_6)) = some r := by first | (rw [hy1011]; with_reducible exact H) | (have H2_ := (Option.bind_some _ _).symm.trans H; rw [hy1011]; with_reducible exact H2_) | (have H2_ := (Option.bind_some _ _).symm.trans H; with_reducible exact H2_) | with_reducible exact H | (rw [hy1011]; exact H) | exact H
          have Ny1011 := am_ hy1011
          clear hy1011
          replace H := Option.bind_eq_some_iff.mp H
          obtain ⟨t1014, A470, H⟩ := H
          replace H : (impl_GoodRelabel.j2 kj23 a0_0 (!t1014) a0_0 l0_1 a0_2 a0_3 a0_4 a0_5 a0_6) = some r := H
          have A47 := am_ A470
          clear A470
          have H' := am_ H
          clear H
          have hcz48_0 : wc.cell? ⟨gb1001, 0, none⟩ = some (.int .i64 a0_0) := (blk_cell BK1001.out 0).trans rfl
          have hcz48_1 : wc.cell? ⟨gb1001, 1, none⟩ = some (.slice A0_1 l0_1.length c0_1) := (blk_cell BK1001.out 1).trans rfl
          have hcz48_2 : wc.cell? ⟨gb1001, 2, none⟩ = some (.string a0_2) := (blk_cell BK1001.out 2).trans rfl
          have hcz48_3 : wc.cell? ⟨gb1001, 3, none⟩ = some (.string a0_3) := (blk_cell BK1001.out 3).trans rfl
          have hcz48_4 : wc.cell? ⟨gb1001, 4, none⟩ = some (.string a0_4) := (blk_cell BK1001.out 4).trans rfl
          have hcz48_5 : wc.cell? ⟨gb1001, 5, none⟩ = some (.string a0_5) := (blk_cell BK1001.out 5).trans rfl
          have hcz48_6 : wc.cell? ⟨gb1001, 6, none⟩ = some (.int .i64 a0_6) := (blk_cell BK1001.out 6).trans rfl
          have hfz48_0 := bf_ BK1001 0
          have hfz48_1 := bf_ BK1001 1
          have hfz48_2 := bf_ BK1001 2
          have hfz48_3 := bf_ BK1001 3
          have hfz48_4 := bf_ BK1001 4
          have hfz48_5 := bf_ BK1001 5
          have hfz48_6 := bf_ BK1001 6
          go_wp2_with (first | ((with_reducible refine gate_callee (f := 65) rfl ?_); refine goesL_ (some 55) rfl rfl Tryd.func65 (by kernel_rfl) rfl #[.string a0_5] rfl ag_ ?_; (with_reducible refine (impl_isFilling.calls kj23 a0_5 true _ A43.out).mono ?_); rintro e w' ⟨rfl, ⟨nd, rfl⟩⟩; refine ⟨_, rfl, ?_⟩) | ((with_reducible refine gate_dst (N := 63) rfl ?_); (try (refine gate_guard (by rfl) ?_; dsimp only)); refine Kd.R_lit (Kd.int .i64) _ 3 ?hg (N := 63) ?hd (xs := ([3, 5] : List Int)) (inner := [.int .i64 3, .int .i64 5]) (ok := fun _ => True) (okp := fun _ => True) ?hr ?hp (fun _ hk => hk) trivial (Below.refl _ _) (Nat.le_refl _) (by simp) ?_; (case hd => rfl); (case hg => rfl); (case hr => first | (go_simp; done) | (go_simp; rfl)); (case hp => exact (Reps.one (show Kd.M (Kd.int .i64) _ _ _ 3 [.int .i64 3] from rfl) (Reps.one (show Kd.M (Kd.int .i64) _ _ _ 5 [.int .i64 5] from rfl) (Reps.none _ _)))); intro v1012 w49 ho50 hb hg_ hnew_; clear hg_ hnew_; (first | rw [← Ny1011.out] at ho50 | (simp only [Int.reduceToNat] at ho50; rw [← Ny1011.out] at ho50)); have HO1013 := am_ (Kd.R_lower ho50 (below_size bg_)); replace BK1001 := am_ (blk_below (g := gb1001) (vk_ BK1001) hb); replace HB := am_ (below_step bg_ hb); clear hb ho50; obtain ⟨Ao51, co51, eo51⟩ := Kd.R_slice HO1013.out; subst eo51) | (go_at_call 64; (with_reducible refine (impl_isOne.calls kj23 a0_0 _ _ y1011 t1014 _ ?side1 ?side2 A47.out).mono ?_); (case side1 => exact cc_ (Kd.R_reads' HO1013.out).2.2); (case side2 => exact (Kd.R_reads' HO1013.out).2.1); rintro e w' ⟨rfl, ⟨nd, rfl⟩⟩))
          go_meet
          case rel => exact ⟨_, (!t1014), rs_, H', ⟨by have := HJ1.out; have := HJ23.out; first | omega | exact Nat.le_refl _⟩, ⟨vk_ BK1001⟩, ⟨bg_⟩⟩
        ·replace c44 := Bool.eq_false_iff.mpr c44
         subst c44
         have H1 : (impl_GoodRelabel.j2 kj23 a0_0 true a0_0 l0_1 a0_2 a0_3 a0_4 a0_5 a0_6) = some r := by rw [if_neg (show ¬ (false = true) by decide)] at H; exact H
         clear H
         have H := H1
         clear H1
         have H' := am_ H
         clear H
         have hcz52_0 : wc.cell? ⟨gb1001, 0, none⟩ = some (.int .i64 a0_0) := (blk_cell BK1001.out 0).trans rfl
         have hcz52_1 : wc.cell? ⟨gb1001, 1, none⟩ = some (.slice A0_1 l0_1.length c0_1) := (blk_cell BK1001.out 1).trans rfl
         have hcz52_2 : wc.cell? ⟨gb1001, 2, none⟩ = some (.string a0_2) := (blk_cell BK1001.out 2).trans rfl
         have hcz52_3 : wc.cell? ⟨gb1001, 3, none⟩ = some (.string a0_3) := (blk_cell BK1001.out 3).trans rfl
         have hcz52_4 : wc.cell? ⟨gb1001, 4, none⟩ = some (.string a0_4) := (blk_cell BK1001.out 4).trans rfl
         have hcz52_5 : wc.cell? ⟨gb1001, 5, none⟩ = some (.string a0_5) := (blk_cell BK1001.out 5).trans rfl
         have hcz52_6 : wc.cell? ⟨gb1001, 6, none⟩ = some (.int .i64 a0_6) := (blk_cell BK1001.out 6).trans rfl
         have hfz52_0 := bf_ BK1001 0
         have hfz52_1 := bf_ BK1001 1
         have hfz52_2 := bf_ BK1001 2
         have hfz52_3 := bf_ BK1001 3
         have hfz52_4 := bf_ BK1001 4
         have hfz52_5 := bf_ BK1001 5
         have hfz52_6 := bf_ BK1001 6
         go_wp2_with (first | ((with_reducible refine gate_callee (f := 65) rfl ?_); refine goesL_ (some 55) rfl rfl Tryd.func65 (by kernel_rfl) rfl #[.string a0_5] rfl ag_ ?_; (with_reducible refine (impl_isFilling.calls kj23 a0_5 false _ A43.out).mono ?_); rintro e w' ⟨rfl, ⟨nd, rfl⟩⟩; refine ⟨_, rfl, ?_⟩))
         go_meet
         case rel => exact ⟨_, (true), rs_, H', ⟨by have := HJ1.out; have := HJ23.out; first | omega | exact Nat.le_refl _⟩, ⟨vk_ BK1001⟩, ⟨bg_⟩⟩
       case rest =>
        clear HC42
        try clear c2
        try clear p2
        try clear c3
        try clear c4
        try clear c6
        try clear c23
        try clear c26
        try clear c26b0
        try clear c26b1
        try clear c26b2
        try clear c31
        try clear c31b0
        try clear c31b1
        try clear c41
        try clear c44
        try clear c45
        try clear c45b0
        try clear c45b1
        try clear hcz46_0
        try clear hcz46_1
        try clear hcz46_2
        try clear hcz46_3
        try clear hcz46_4
        try clear hcz46_5
        try clear hcz46_6
        try clear hcz48_0
        try clear hcz48_1
        try clear hcz48_2
        try clear hcz48_3
        try clear hcz48_4
        try clear hcz48_5
        try clear hcz48_6
        try clear hcz52_0
        try clear hcz52_1
        try clear hcz52_2
        try clear hcz52_3
        try clear hcz52_4
        try clear hcz52_5
        try clear hcz52_6
        try clear hfz18_1
        try clear hfz18_2
        try clear hfz18_3
        try clear hfz18_4
        try clear hfz18_5
        try clear hfz18_6
        try clear hfz20_0
        try clear hfz20_1
        try clear hfz20_2
        try clear hfz20_3
        try clear hfz20_4
        try clear hfz20_5
        try clear hfz20_6
        try clear hfz22_0
        try clear hfz22_1
        try clear hfz22_2
        try clear hfz22_3
        try clear hfz22_4
        try clear hfz22_5
        try clear hfz22_6
        try clear hfz46_0
        try clear hfz46_1
        try clear hfz46_2
        try clear hfz46_3
        try clear hfz46_4
        try clear hfz46_5
        try clear hfz46_6
        try clear hfz48_0
        try clear hfz48_1
        try clear hfz48_2
        try clear hfz48_3
        try clear hfz48_4
        try clear hfz48_5
        try clear hfz48_6
        try clear hfz4_0
        try clear hfz4_1
        try clear hfz4_2
        try clear hfz4_3
        try clear hfz4_4
        try clear hfz4_5
        try clear hfz4_6
        try clear hfz52_0
        try clear hfz52_1
        try clear hfz52_2
        try clear hfz52_3
        try clear hfz52_4
        try clear hfz52_5
        try clear hfz52_6
        try clear hfz8_0
        try clear hfz8_1
        try clear hfz8_2
        try clear hfz8_3
        try clear hfz8_4
        try clear hfz8_5
        try clear hfz8_6
        try clear p2
        obtain ⟨kq, x67_41, rfl, HA, HJ41, BK1001, HB⟩ := hcut
        cases kq with
        | zero => exact absurd HA.out (by simp [impl_GoodRelabel.j2])
        | succ kj41 =>
         have H := HA.out
         clear HA
         simp only [impl_GoodRelabel.j2] at H
         by_cases c53 : x67_41 = true
         ·subst c53
          have H1 : (some false) = some r := by rw [if_pos rfl] at H; exact H
          clear H
          have H := H1
          clear H1
          obtain rfl := Option.some.inj H
          go_wp2
          go_ret
          exact ⟨rf_, bg_⟩
         ·replace c53 := Bool.eq_false_iff.mpr c53
          subst c53
          have H1 : (if a0_0 = 4 then (if a0_6 < 1 then (impl_GoodRelabel.j3 kj41 a0_0 true a0_0 l0_1 a0_2 a0_3 a0_4 a0_5 a0_6) else (if a0_6 > 1000 then (impl_GoodRelabel.j3 kj41 a0_0 true a0_0 l0_1 a0_2 a0_3 a0_4 a0_5 a0_6) else (impl_GoodRelabel.j3 kj41 a0_0 false a0_0 l0_1 a0_2 a0_3 a0_4 a0_5 a0_6))) else (impl_GoodRelabel.j3 kj41 a0_0 (a0_6 != 0) a0_0 l0_1 a0_2 a0_3 a0_4 a0_5 a0_6)) = some r := by rw [if_neg (show ¬ (false = true) by decide)] at H; exact H
          clear H
          have H := H1
          clear H1
          have HC54 := am_ H
          clear H
          go_upto_region 8 with (fail)
          go_cut [88] (fun v88 wc => ∃ (kq : Nat) (x88_53 : Bool), v88 = .bool x88_53 ∧ Aside0 (impl_GoodRelabel.j3 kq a0_0 x88_53 a0_0 l0_1 a0_2 a0_3 a0_4 a0_5 a0_6 = some r) ∧ Aside0 (kq ≤ kj41) ∧ Aside0 (wc.heap[gb1001]? = some (.cells #[.int .i64 a0_0, (.slice A0_1 l0_1.length c0_1), .string a0_2, .string a0_3, .string a0_4, .string a0_5, .int .i64 a0_6] 38 (0, 0))) ∧ Aside0 (Below w.heap.size w wc))
          case first =>
           have H := HC54.out
           clear HC54
           by_cases c55 : a0_0 = 4
           ·rw [if_pos c55] at H
            have c55b0 : (a0_0 == 4) = true := beq_iff_eq.mpr c55
            have c55b1 : (a0_0 != 4) = false := bne_eq_false_iff_eq.mpr c55
            clear c55
            (first | rw [c55b0] | (simp only [i64_w, i32_w]; rw [c55b0]) | skip)
            by_cases c56 : a0_6 < 1
            ·rw [if_pos c56] at H
             have c56b0 : decide (a0_6 < 1) = true := decide_eq_true c56
             clear c56
             have H' := am_ H
             clear H
             have hcz57_0 : wc.cell? ⟨gb1001, 0, none⟩ = some (.int .i64 a0_0) := (blk_cell BK1001.out 0).trans rfl
             have hcz57_1 : wc.cell? ⟨gb1001, 1, none⟩ = some (.slice A0_1 l0_1.length c0_1) := (blk_cell BK1001.out 1).trans rfl
             have hcz57_2 : wc.cell? ⟨gb1001, 2, none⟩ = some (.string a0_2) := (blk_cell BK1001.out 2).trans rfl
             have hcz57_3 : wc.cell? ⟨gb1001, 3, none⟩ = some (.string a0_3) := (blk_cell BK1001.out 3).trans rfl
             have hcz57_4 : wc.cell? ⟨gb1001, 4, none⟩ = some (.string a0_4) := (blk_cell BK1001.out 4).trans rfl
             have hcz57_5 : wc.cell? ⟨gb1001, 5, none⟩ = some (.string a0_5) := (blk_cell BK1001.out 5).trans rfl
             have hcz57_6 : wc.cell? ⟨gb1001, 6, none⟩ = some (.int .i64 a0_6) := (blk_cell BK1001.out 6).trans rfl
             have hfz57_0 := bf_ BK1001 0
             have hfz57_1 := bf_ BK1001 1
             have hfz57_2 := bf_ BK1001 2
             have hfz57_3 := bf_ BK1001 3
             have hfz57_4 := bf_ BK1001 4
             have hfz57_5 := bf_ BK1001 5
             have hfz57_6 := bf_ BK1001 6
             go_wp2
             go_meet
             case rel => exact ⟨_, (true), rs_, H', ⟨by have := HJ1.out; have := HJ23.out; have := HJ41.out; first | omega | exact Nat.le_refl _⟩, ⟨vk_ BK1001⟩, ⟨bg_⟩⟩
            ·rw [if_neg c56] at H
             have c56b0 : decide (a0_6 < 1) = false := decide_eq_false c56
             clear c56
             by_cases c58 : a0_6 > 1000
             ·rw [if_pos c58] at H
              have c58b0 : decide (1000 < a0_6) = true := decide_eq_true c58
              clear c58
              have H' := am_ H
              clear H
              have hcz59_0 : wc.cell? ⟨gb1001, 0, none⟩ = some (.int .i64 a0_0) := (blk_cell BK1001.out 0).trans rfl
              have hcz59_1 : wc.cell? ⟨gb1001, 1, none⟩ = some (.slice A0_1 l0_1.length c0_1) := (blk_cell BK1001.out 1).trans rfl
              have hcz59_2 : wc.cell? ⟨gb1001, 2, none⟩ = some (.string a0_2) := (blk_cell BK1001.out 2).trans rfl
              have hcz59_3 : wc.cell? ⟨gb1001, 3, none⟩ = some (.string a0_3) := (blk_cell BK1001.out 3).trans rfl
              have hcz59_4 : wc.cell? ⟨gb1001, 4, none⟩ = some (.string a0_4) := (blk_cell BK1001.out 4).trans rfl
              have hcz59_5 : wc.cell? ⟨gb1001, 5, none⟩ = some (.string a0_5) := (blk_cell BK1001.out 5).trans rfl
              have hcz59_6 : wc.cell? ⟨gb1001, 6, none⟩ = some (.int .i64 a0_6) := (blk_cell BK1001.out 6).trans rfl
              have hfz59_0 := bf_ BK1001 0
              have hfz59_1 := bf_ BK1001 1
              have hfz59_2 := bf_ BK1001 2
              have hfz59_3 := bf_ BK1001 3
              have hfz59_4 := bf_ BK1001 4
              have hfz59_5 := bf_ BK1001 5
              have hfz59_6 := bf_ BK1001 6
              go_wp2
              go_meet
              case rel => exact ⟨_, (true), rs_, H', ⟨by have := HJ1.out; have := HJ23.out; have := HJ41.out; first | omega | exact Nat.le_refl _⟩, ⟨vk_ BK1001⟩, ⟨bg_⟩⟩
             ·rw [if_neg c58] at H
              have c58b0 : decide (1000 < a0_6) = false := decide_eq_false c58
              clear c58
              have H' := am_ H
              clear H
              have hcz60_0 : wc.cell? ⟨gb1001, 0, none⟩ = some (.int .i64 a0_0) := (blk_cell BK1001.out 0).trans rfl
              have hcz60_1 : wc.cell? ⟨gb1001, 1, none⟩ = some (.slice A0_1 l0_1.length c0_1) := (blk_cell BK1001.out 1).trans rfl
              have hcz60_2 : wc.cell? ⟨gb1001, 2, none⟩ = some (.string a0_2) := (blk_cell BK1001.out 2).trans rfl
              have hcz60_3 : wc.cell? ⟨gb1001, 3, none⟩ = some (.string a0_3) := (blk_cell BK1001.out 3).trans rfl
              have hcz60_4 : wc.cell? ⟨gb1001, 4, none⟩ = some (.string a0_4) := (blk_cell BK1001.out 4).trans rfl
              have hcz60_5 : wc.cell? ⟨gb1001, 5, none⟩ = some (.string a0_5) := (blk_cell BK1001.out 5).trans rfl
              have hcz60_6 : wc.cell? ⟨gb1001, 6, none⟩ = some (.int .i64 a0_6) := (blk_cell BK1001.out 6).trans rfl
              have hfz60_0 := bf_ BK1001 0
              have hfz60_1 := bf_ BK1001 1
              have hfz60_2 := bf_ BK1001 2
              have hfz60_3 := bf_ BK1001 3
              have hfz60_4 := bf_ BK1001 4
              have hfz60_5 := bf_ BK1001 5
              have hfz60_6 := bf_ BK1001 6
              go_wp2
              go_meet
              case rel => exact ⟨_, (false), rs_, H', ⟨by have := HJ1.out; have := HJ23.out; have := HJ41.out; first | omega | exact Nat.le_refl _⟩, ⟨vk_ BK1001⟩, ⟨bg_⟩⟩
           ·rw [if_neg c55] at H
            have c55b0 : (a0_0 == 4) = false := beq_eq_false_iff_ne.mpr c55
            have c55b1 : (a0_0 != 4) = true := bne_iff_ne.mpr c55
            (first | rw [c55b0] | (simp only [i64_w, i32_w]; rw [c55b0]) | skip)
            have H' := am_ H
            clear H
            have hcz61_0 : wc.cell? ⟨gb1001, 0, none⟩ = some (.int .i64 a0_0) := (blk_cell BK1001.out 0).trans rfl
            have hcz61_1 : wc.cell? ⟨gb1001, 1, none⟩ = some (.slice A0_1 l0_1.length c0_1) := (blk_cell BK1001.out 1).trans rfl
            have hcz61_2 : wc.cell? ⟨gb1001, 2, none⟩ = some (.string a0_2) := (blk_cell BK1001.out 2).trans rfl
            have hcz61_3 : wc.cell? ⟨gb1001, 3, none⟩ = some (.string a0_3) := (blk_cell BK1001.out 3).trans rfl
            have hcz61_4 : wc.cell? ⟨gb1001, 4, none⟩ = some (.string a0_4) := (blk_cell BK1001.out 4).trans rfl
            have hcz61_5 : wc.cell? ⟨gb1001, 5, none⟩ = some (.string a0_5) := (blk_cell BK1001.out 5).trans rfl
            have hcz61_6 : wc.cell? ⟨gb1001, 6, none⟩ = some (.int .i64 a0_6) := (blk_cell BK1001.out 6).trans rfl
            have hfz61_0 := bf_ BK1001 0
            have hfz61_1 := bf_ BK1001 1
            have hfz61_2 := bf_ BK1001 2
            have hfz61_3 := bf_ BK1001 3
            have hfz61_4 := bf_ BK1001 4
            have hfz61_5 := bf_ BK1001 5
            have hfz61_6 := bf_ BK1001 6
            go_wp2
            go_meet
            case rel => exact ⟨_, ((a0_6 != 0)), rs_, H', ⟨by have := HJ1.out; have := HJ23.out; have := HJ41.out; first | omega | exact Nat.le_refl _⟩, ⟨vk_ BK1001⟩, ⟨bg_⟩⟩
          case rest =>
           clear HC54
           try clear c2
           try clear p2
           try clear c3
           try clear c4
           try clear c5
           try clear c6
           try clear c23
           try clear c26
           try clear c26b0
           try clear c26b1
           try clear c26b2
           try clear c31
           try clear c31b0
           try clear c31b1
           try clear c41
           try clear c44
           try clear c45
           try clear c45b0
           try clear c45b1
           try clear c53
           try clear c55
           try clear c55b0
           try clear c55b1
           try clear c56
           try clear c56b0
           try clear c58
           try clear c58b0
           try clear c61
           try clear hcz46_0
           try clear hcz46_1
           try clear hcz46_2
           try clear hcz46_3
           try clear hcz46_4
           try clear hcz46_5
           try clear hcz46_6
           try clear hcz48_0
           try clear hcz48_1
           try clear hcz48_2
           try clear hcz48_3
           try clear hcz48_4
           try clear hcz48_5
           try clear hcz48_6
           try clear hcz52_0
           try clear hcz52_1
           try clear hcz52_2
           try clear hcz52_3
           try clear hcz52_4
           try clear hcz52_5
           try clear hcz52_6
           try clear hcz57_0
           try clear hcz57_1
           try clear hcz57_2
           try clear hcz57_3
           try clear hcz57_4
           try clear hcz57_5
           try clear hcz57_6
           try clear hcz59_0
           try clear hcz59_1
           try clear hcz59_2
           try clear hcz59_3
           try clear hcz59_4
           try clear hcz59_5
           try clear hcz59_6
           try clear hcz60_0
           try clear hcz60_1
           try clear hcz60_2
           try clear hcz60_3
           try clear hcz60_4
           try clear hcz60_5
           try clear hcz60_6
           try clear hcz61_0
           try clear hcz61_1
           try clear hcz61_2
           try clear hcz61_3
           try clear hcz61_4
           try clear hcz61_5
           try clear hcz61_6
           try clear hfz18_1
           try clear hfz18_2
           try clear hfz18_3
           try clear hfz18_4
           try clear hfz18_5
           try clear hfz18_6
           try clear hfz20_0
           try clear hfz20_1
           try clear hfz20_2
           try clear hfz20_3
           try clear hfz20_4
           try clear hfz20_5
           try clear hfz20_6
           try clear hfz22_0
           try clear hfz22_1
           try clear hfz22_2
           try clear hfz22_3
           try clear hfz22_4
           try clear hfz22_5
           try clear hfz22_6
           try clear hfz46_0
           try clear hfz46_1
           try clear hfz46_2
           try clear hfz46_3
           try clear hfz46_4
           try clear hfz46_5
           try clear hfz46_6
           try clear hfz48_0
           try clear hfz48_1
           try clear hfz48_2
           try clear hfz48_3
           try clear hfz48_4
           try clear hfz48_5
           try clear hfz48_6
           try clear hfz4_0
           try clear hfz4_1
           try clear hfz4_2
           try clear hfz4_3
           try clear hfz4_4
           try clear hfz4_5
           try clear hfz4_6
           try clear hfz52_0
           try clear hfz52_1
           try clear hfz52_2
           try clear hfz52_3
           try clear hfz52_4
           try clear hfz52_5
           try clear hfz52_6
           try clear hfz57_0
           try clear hfz57_1
           try clear hfz57_2
           try clear hfz57_3
           try clear hfz57_4
           try clear hfz57_5
           try clear hfz57_6
           try clear hfz59_0
           try clear hfz59_1
           try clear hfz59_2
           try clear hfz59_3
           try clear hfz59_4
           try clear hfz59_5
           try clear hfz59_6
           try clear hfz60_0
           try clear hfz60_1
           try clear hfz60_2
           try clear hfz60_3
           try clear hfz60_4
           try clear hfz60_5
           try clear hfz60_6
           try clear hfz61_0
           try clear hfz61_1
           try clear hfz61_2
           try clear hfz61_3
           try clear hfz61_4
           try clear hfz61_5
           try clear hfz61_6
           try clear hfz8_0
           try clear hfz8_1
           try clear hfz8_2
           try clear hfz8_3
           try clear hfz8_4
           try clear hfz8_5
           try clear hfz8_6
           try clear p2
           obtain ⟨kq, x88_53, rfl, HA, HJ53, BK1001, HB⟩ := hcut
           cases kq with
           | zero => exact absurd HA.out (by simp [impl_GoodRelabel.j3])
           | succ kj53 =>
            have H := HA.out
            clear HA
            simp only [impl_GoodRelabel.j3] at H
            by_cases c62 : x88_53 = true
            ·subst c62
             have H1 : (some false) = some r := by rw [if_pos rfl] at H; exact H
             clear H
             have H := H1
             clear H1
             obtain rfl := Option.some.inj H
             go_wp2
             go_ret
             exact ⟨rf_, bg_⟩
            ·replace c62 := Bool.eq_false_iff.mpr c62
             subst c62
             have H1 : ((impl_isOne.f kj53 a0_0 (([5, 6, 7] : List Int))).bind fun t1018 => (if t1018 = true then (if (l0_1.length : Int) > 0 then (some false) else (if a0_2.toList = ([] : List UInt8) then (if a0_3.toList = ([] : List UInt8) then (some true) else ((impl_isOne.f kj53 a0_0 (([4, 8] : List Int))).bind fun t1022 => (some (!t1022)))) else (some false))) else (if a0_3.toList = ([] : List UInt8) then (some true) else ((impl_isOne.f kj53 a0_0 (([4, 8] : List Int))).bind fun t1026 => (some (!t1026)))))) = some r := by rw [if_neg (show ¬ (false = true) by decide)] at H; exact H
             clear H
             have H := H1
             clear H1
             obtain ⟨y1015, hy1015⟩ : ∃ y_ : List Int, y_ = (([5, 6, 7] : List Int)) := ⟨_, rfl⟩
             replace H : ((impl_isOne.f kj53 a0_0 y1015).bind fun t1018 => (if t1018 = true then (if (l0_1.length : Int) > 0 then (some false) else (if a0_2.toList = ([] : List UInt8) then (if a0_3.toList = ([] : List UInt8) then (some true) else ((impl_isOne.f kj53 a0_0 (([4, 8] : List Int))).bind fun t1022 => (some (!t1022)))) else (some false))) else (if a0_3.toList = ([] : List UInt8) then (some true) else ((impl_isOne.f kj53 a0_0 (([4, 8] : List Int))).bind fun t1026 => (some (!t1026)))))) = some r := by first | (rw [hy1015]; with_reducible exact H) | (have H2_ := (Option.bind_some _ _).symm.trans H; rw [hy1015]; with_reducible exact H2_) | (have H2_ := (Option.bind_some _ _).symm.trans H; with_reducible exact H2_) | with_reducible exact H | (rw [hy1015]; exact H) | exact H
             have Ny1015 := am_ hy1015
             clear hy1015
             replace H := Option.bind_eq_some_iff.mp H
             obtain ⟨t1018, A630, H⟩ := H
             replace H : (if t1018 = true then (if (l0_1.length : Int) > 0 then (some false) else (if a0_2.toList = ([] : List UInt8) then (if a0_3.toList = ([] : List UInt8) then (some true) else ((impl_isOne.f kj53 a0_0 (([4, 8] : List Int))).bind fun t1022 => (some (!t1022)))) else (some false))) else (if a0_3.toList = ([] : List UInt8) then (some true) else ((impl_isOne.f kj53 a0_0 (([4, 8] : List Int))).bind fun t1026 => (some (!t1026))))) = some r := H
             have A63 := am_ A630
             clear A630
             by_cases c64 : t1018 = true
             ·subst c64
              have H1 : (if (l0_1.length : Int) > 0 then (some false) else (if a0_2.toList = ([] : List UInt8) then (if a0_3.toList = ([] : List UInt8) then (some true) else ((impl_isOne.f kj53 a0_0 (([4, 8] : List Int))).bind fun t1022 => (some (!t1022)))) else (some false))) = some r := by rw [if_pos rfl] at H; exact H
              clear H
              have H := H1
              clear H1
              by_cases c65 : (l0_1.length : Int) > 0
              ·rw [if_pos c65] at H
               have c65b0 : decide (0 < (l0_1.length : Int)) = true := decide_eq_true c65
               have c65b1 : decide (0 < l0_1.length) = true := decide_eq_true (by omega)
               have c65b2 : 0 < l0_1.length := by omega
               clear c65
               obtain rfl := Option.some.inj H
               go_wp2_with (first | ((with_reducible refine gate_dst (N := 90) rfl ?_); (try (refine gate_guard (by rfl) ?_; dsimp only)); refine Kd.R_lit (Kd.int .i64) _ 3 ?hg (N := 90) ?hd (xs := ([5, 6, 7] : List Int)) (inner := [.int .i64 5, .int .i64 6, .int .i64 7]) (ok := fun _ => True) (okp := fun _ => True) ?hr ?hp (fun _ hk => hk) trivial (Below.refl _ _) (Nat.le_refl _) (by simp) ?_; (case hd => rfl); (case hg => rfl); (case hr => first | (go_simp; done) | (go_simp; rfl)); (case hp => exact (Reps.one (show Kd.M (Kd.int .i64) _ _ _ 5 [.int .i64 5] from rfl) (Reps.one (show Kd.M (Kd.int .i64) _ _ _ 6 [.int .i64 6] from rfl) (Reps.one (show Kd.M (Kd.int .i64) _ _ _ 7 [.int .i64 7] from rfl) (Reps.none _ _))))); intro v1016 w66 ho67 hb hg_ hnew_; clear hg_ hnew_; (first | rw [← Ny1015.out] at ho67 | (simp only [Int.reduceToNat] at ho67; rw [← Ny1015.out] at ho67)); have HO1017 := am_ (Kd.R_lower ho67 (below_size bg_)); replace BK1001 := am_ (blk_below (g := gb1001) (vk_ BK1001) hb); replace HB := am_ (below_step bg_ hb); clear hb ho67; obtain ⟨Ao68, co68, eo68⟩ := Kd.R_slice HO1017.out; subst eo68) | ((with_reducible refine gate_callee (f := 64) rfl ?_); refine goesL_ (some 91) rfl rfl Tryd.func64 (by kernel_rfl) rfl #[.int .i64 a0_0, .slice Ao68 y1015.length co68] rfl ag_ ?_; (with_reducible refine (impl_isOne.calls kj53 a0_0 _ _ y1015 true _ ?side1 ?side2 A63.out).mono ?_); (case side1 => exact cc_ (Kd.R_reads' HO1017.out).2.2); (case side2 => exact (Kd.R_reads' HO1017.out).2.1); rintro e w' ⟨rfl, ⟨nd, rfl⟩⟩; refine ⟨_, rfl, ?_⟩; have hcz69_0 : w66.cell? ⟨gb1001, 0, none⟩ = some (.int .i64 a0_0) := (blk_cell BK1001.out 0).trans rfl; have hcz69_1 : w66.cell? ⟨gb1001, 1, none⟩ = some (.slice A0_1 l0_1.length c0_1) := (blk_cell BK1001.out 1).trans rfl; have hcz69_2 : w66.cell? ⟨gb1001, 2, none⟩ = some (.string a0_2) := (blk_cell BK1001.out 2).trans rfl; have hcz69_3 : w66.cell? ⟨gb1001, 3, none⟩ = some (.string a0_3) := (blk_cell BK1001.out 3).trans rfl; have hcz69_4 : w66.cell? ⟨gb1001, 4, none⟩ = some (.string a0_4) := (blk_cell BK1001.out 4).trans rfl; have hcz69_5 : w66.cell? ⟨gb1001, 5, none⟩ = some (.string a0_5) := (blk_cell BK1001.out 5).trans rfl; have hcz69_6 : w66.cell? ⟨gb1001, 6, none⟩ = some (.int .i64 a0_6) := (blk_cell BK1001.out 6).trans rfl; have hfz69_0 := bf_ BK1001 0; have hfz69_1 := bf_ BK1001 1; have hfz69_2 := bf_ BK1001 2; have hfz69_3 := bf_ BK1001 3; have hfz69_4 := bf_ BK1001 4; have hfz69_5 := bf_ BK1001 5; have hfz69_6 := bf_ BK1001 6))
               go_ret
               exact ⟨rf_, bg_⟩
              ·rw [if_neg c65] at H
               have c65b0 : decide (0 < (l0_1.length : Int)) = false := decide_eq_false c65
               have c65b1 : decide (0 < l0_1.length) = false := decide_eq_false (by omega)
               have c65b2 : ¬ 0 < l0_1.length := by omega
               clear c65
               by_cases c70 : a0_2.toList = ([] : List UInt8)
               ·rw [if_pos c70] at H
                have c70b0 : (a0_2.toList == ([] : List UInt8)) = true := beq_iff_eq.mpr c70
                have c70b1 : (a0_2.toList != ([] : List UInt8)) = false := bne_eq_false_iff_eq.mpr c70
                clear c70
                by_cases c71 : a0_3.toList = ([] : List UInt8)
                ·rw [if_pos c71] at H
                 have c71b0 : (a0_3.toList == ([] : List UInt8)) = true := beq_iff_eq.mpr c71
                 have c71b1 : (a0_3.toList != ([] : List UInt8)) = false := bne_eq_false_iff_eq.mpr c71
                 clear c71
                 obtain rfl := Option.some.inj H
                 go_wp2_with (first | ((with_reducible refine gate_dst (N := 90) rfl ?_); (try (refine gate_guard (by rfl) ?_; dsimp only)); refine Kd.R_lit (Kd.int .i64) _ 3 ?hg (N := 90) ?hd (xs := ([5, 6, 7] : List Int)) (inner := [.int .i64 5, .int .i64 6, .int .i64 7]) (ok := fun _ => True) (okp := fun _ => True) ?hr ?hp (fun _ hk => hk) trivial (Below.refl _ _) (Nat.le_refl _) (by simp) ?_; (case hd => rfl); (case hg => rfl); (case hr => first | (go_simp; done) | (go_simp; rfl)); (case hp => exact (Reps.one (show Kd.M (Kd.int .i64) _ _ _ 5 [.int .i64 5] from rfl) (Reps.one (show Kd.M (Kd.int .i64) _ _ _ 6 [.int .i64 6] from rfl) (Reps.one (show Kd.M (Kd.int .i64) _ _ _ 7 [.int .i64 7] from rfl) (Reps.none _ _))))); intro v1016 w72 ho73 hb hg_ hnew_; clear hg_ hnew_; (first | rw [← Ny1015.out] at ho73 | (simp only [Int.reduceToNat] at ho73; rw [← Ny1015.out] at ho73)); have HO1017 := am_ (Kd.R_lower ho73 (below_size bg_)); replace BK1001 := am_ (blk_below (g := gb1001) (vk_ BK1001) hb); replace HB := am_ (below_step bg_ hb); clear hb ho73; obtain ⟨Ao74, co74, eo74⟩ := Kd.R_slice HO1017.out; subst eo74) | ((with_reducible refine gate_callee (f := 64) rfl ?_); refine goesL_ (some 91) rfl rfl Tryd.func64 (by kernel_rfl) rfl #[.int .i64 a0_0, .slice Ao74 y1015.length co74] rfl ag_ ?_; (with_reducible refine (impl_isOne.calls kj53 a0_0 _ _ y1015 true _ ?side1 ?side2 A63.out).mono ?_); (case side1 => exact cc_ (Kd.R_reads' HO1017.out).2.2); (case side2 => exact (Kd.R_reads' HO1017.out).2.1); rintro e w' ⟨rfl, ⟨nd, rfl⟩⟩; refine ⟨_, rfl, ?_⟩; have hcz75_0 : w72.cell? ⟨gb1001, 0, none⟩ = some (.int .i64 a0_0) := (blk_cell BK1001.out 0).trans rfl; have hcz75_1 : w72.cell? ⟨gb1001, 1, none⟩ = some (.slice A0_1 l0_1.length c0_1) := (blk_cell BK1001.out 1).trans rfl; have hcz75_2 : w72.cell? ⟨gb1001, 2, none⟩ = some (.string a0_2) := (blk_cell BK1001.out 2).trans rfl; have hcz75_3 : w72.cell? ⟨gb1001, 3, none⟩ = some (.string a0_3) := (blk_cell BK1001.out 3).trans rfl; have hcz75_4 : w72.cell? ⟨gb1001, 4, none⟩ = some (.string a0_4) := (blk_cell BK1001.out 4).trans rfl; have hcz75_5 : w72.cell? ⟨gb1001, 5, none⟩ = some (.string a0_5) := (blk_cell BK1001.out 5).trans rfl; have hcz75_6 : w72.cell? ⟨gb1001, 6, none⟩ = some (.int .i64 a0_6) := (blk_cell BK1001.out 6).trans rfl; have hfz75_0 := bf_ BK1001 0; have hfz75_1 := bf_ BK1001 1; have hfz75_2 := bf_ BK1001 2; have hfz75_3 := bf_ BK1001 3; have hfz75_4 := bf_ BK1001 4; have hfz75_5 := bf_ BK1001 5; have hfz75_6 := bf_ BK1001 6))
                 go_ret
                 exact ⟨rf_, bg_⟩
                ·rw [if_neg c71] at H
                 have c71b0 : (a0_3.toList == ([] : List UInt8)) = false := beq_eq_false_iff_ne.mpr c71
                 have c71b1 : (a0_3.toList != ([] : List UInt8)) = true := bne_iff_ne.mpr c71
                 obtain ⟨y1019, hy1019⟩ : ∃ y_ : List Int, y_ = (([4, 8] : List Int)) := ⟨_, rfl⟩
                 replace H : ((impl_isOne.f kj53 a0_0 y1019).bind fun t1022 => (some (!t1022))) = some r := by first | (rw [hy1019]; with_reducible exact H) | (have H2_ := (Option.bind_some _ _).symm.trans H; rw [hy1019]; with_reducible exact H2_) | (have H2_ := (Option.bind_some _ _).symm.trans H; with_reducible exact H2_) | with_reducible exact H | (rw [hy1019]; exact H) | exact H
                 have Ny1019 := am_ hy1019
                 clear hy1019
                 replace H := Option.bind_eq_some_iff.mp H
                 obtain ⟨t1022, A760, H⟩ := H
                 replace H : (some (!t1022)) = some r := H
                 have A76 := am_ A760
                 clear A760
                 obtain rfl := Option.some.inj H
                 go_wp2_with (first | ((with_reducible refine gate_dst (N := 90) rfl ?_); (try (refine gate_guard (by rfl) ?_; dsimp only)); refine Kd.R_lit (Kd.int .i64) _ 3 ?hg (N := 90) ?hd (xs := ([5, 6, 7] : List Int)) (inner := [.int .i64 5, .int .i64 6, .int .i64 7]) (ok := fun _ => True) (okp := fun _ => True) ?hr ?hp (fun _ hk => hk) trivial (Below.refl _ _) (Nat.le_refl _) (by simp) ?_; (case hd => rfl); (case hg => rfl); (case hr => first | (go_simp; done) | (go_simp; rfl)); (case hp => exact (Reps.one (show Kd.M (Kd.int .i64) _ _ _ 5 [.int .i64 5] from rfl) (Reps.one (show Kd.M (Kd.int .i64) _ _ _ 6 [.int .i64 6] from rfl) (Reps.one (show Kd.M (Kd.int .i64) _ _ _ 7 [.int .i64 7] from rfl) (Reps.none _ _))))); intro v1016 w77 ho78 hb hg_ hnew_; clear hg_ hnew_; (first | rw [← Ny1015.out] at ho78 | (simp only [Int.reduceToNat] at ho78; rw [← Ny1015.out] at ho78)); have HO1017 := am_ (Kd.R_lower ho78 (below_size bg_)); replace BK1001 := am_ (blk_below (g := gb1001) (vk_ BK1001) hb); replace HB := am_ (below_step bg_ hb); clear hb ho78; obtain ⟨Ao79, co79, eo79⟩ := Kd.R_slice HO1017.out; subst eo79) | ((with_reducible refine gate_callee (f := 64) rfl ?_); refine goesL_ (some 91) rfl rfl Tryd.func64 (by kernel_rfl) rfl #[.int .i64 a0_0, .slice Ao79 y1015.length co79] rfl ag_ ?_; (with_reducible refine (impl_isOne.calls kj53 a0_0 _ _ y1015 true _ ?side1 ?side2 A63.out).mono ?_); (case side1 => exact cc_ (Kd.R_reads' HO1017.out).2.2); (case side2 => exact (Kd.R_reads' HO1017.out).2.1); rintro e w' ⟨rfl, ⟨nd, rfl⟩⟩; refine ⟨_, rfl, ?_⟩; have hcz80_0 : w77.cell? ⟨gb1001, 0, none⟩ = some (.int .i64 a0_0) := (blk_cell BK1001.out 0).trans rfl; have hcz80_1 : w77.cell? ⟨gb1001, 1, none⟩ = some (.slice A0_1 l0_1.length c0_1) := (blk_cell BK1001.out 1).trans rfl; have hcz80_2 : w77.cell? ⟨gb1001, 2, none⟩ = some (.string a0_2) := (blk_cell BK1001.out 2).trans rfl; have hcz80_3 : w77.cell? ⟨gb1001, 3, none⟩ = some (.string a0_3) := (blk_cell BK1001.out 3).trans rfl; have hcz80_4 : w77.cell? ⟨gb1001, 4, none⟩ = some (.string a0_4) := (blk_cell BK1001.out 4).trans rfl; have hcz80_5 : w77.cell? ⟨gb1001, 5, none⟩ = some (.string a0_5) := (blk_cell BK1001.out 5).trans rfl; have hcz80_6 : w77.cell? ⟨gb1001, 6, none⟩ = some (.int .i64 a0_6) := (blk_cell BK1001.out 6).trans rfl; have hfz80_0 := bf_ BK1001 0; have hfz80_1 := bf_ BK1001 1; have hfz80_2 := bf_ BK1001 2; have hfz80_3 := bf_ BK1001 3; have hfz80_4 := bf_ BK1001 4; have hfz80_5 := bf_ BK1001 5; have hfz80_6 := bf_ BK1001 6) | ((with_reducible refine gate_dst (N := 108) rfl ?_); (try (refine gate_guard (by rfl) ?_; dsimp only)); refine Kd.R_lit (Kd.int .i64) _ 3 ?hg (N := 108) ?hd (xs := ([4, 8] : List Int)) (inner := [.int .i64 4, .int .i64 8]) (ok := fun _ => True) (okp := fun _ => True) ?hr ?hp (fun _ hk => hk) trivial (Below.refl _ _) (Nat.le_refl _) (by simp) ?_; (case hd => rfl); (case hg => rfl); (case hr => first | (go_simp; done) | (go_simp; rfl)); (case hp => exact (Reps.one (show Kd.M (Kd.int .i64) _ _ _ 4 [.int .i64 4] from rfl) (Reps.one (show Kd.M (Kd.int .i64) _ _ _ 8 [.int .i64 8] from rfl) (Reps.none _ _)))); intro v1020 w81 ho82 hb hg_ hnew_; clear hg_ hnew_; (first | rw [← Ny1019.out] at ho82 | (simp only [Int.reduceToNat] at ho82; rw [← Ny1019.out] at ho82)); have HO1021 := am_ (Kd.R_lower (Kd.R_new' ho82 (Kd.R_lt (ro_ HO1017))) (below_size bg_)); replace HO1017 := am_ (Kd.R_elder' (ro_ HO1017) (Kd.R_base ho82) hb); replace BK1001 := am_ (blk_below (g := gb1001) (vk_ BK1001) hb); replace HB := am_ (below_step bg_ hb); clear hb ho82; obtain ⟨Ao83, co83, eo83⟩ := Kd.R_slice HO1021.out; subst eo83) | (go_at_call 64; (with_reducible refine (impl_isOne.calls kj53 a0_0 _ _ y1019 t1022 _ ?side1 ?side2 A76.out).mono ?_); (case side1 => exact cc_ (Kd.R_reads' HO1021.out).2.2); (case side2 => exact (Kd.R_reads' HO1021.out).2.1); rintro e w' ⟨rfl, ⟨nd, rfl⟩⟩))
                 go_ret
                 exact ⟨rf_, bg_⟩
               ·rw [if_neg c70] at H
                have c70b0 : (a0_2.toList == ([] : List UInt8)) = false := beq_eq_false_iff_ne.mpr c70
                have c70b1 : (a0_2.toList != ([] : List UInt8)) = true := bne_iff_ne.mpr c70
                obtain rfl := Option.some.inj H
                go_wp2_with (first | ((with_reducible refine gate_dst (N := 90) rfl ?_); (try (refine gate_guard (by rfl) ?_; dsimp only)); refine Kd.R_lit (Kd.int .i64) _ 3 ?hg (N := 90) ?hd (xs := ([5, 6, 7] : List Int)) (inner := [.int .i64 5, .int .i64 6, .int .i64 7]) (ok := fun _ => True) (okp := fun _ => True) ?hr ?hp (fun _ hk => hk) trivial (Below.refl _ _) (Nat.le_refl _) (by simp) ?_; (case hd => rfl); (case hg => rfl); (case hr => first | (go_simp; done) | (go_simp; rfl)); (case hp => exact (Reps.one (show Kd.M (Kd.int .i64) _ _ _ 5 [.int .i64 5] from rfl) (Reps.one (show Kd.M (Kd.int .i64) _ _ _ 6 [.int .i64 6] from rfl) (Reps.one (show Kd.M (Kd.int .i64) _ _ _ 7 [.int .i64 7] from rfl) (Reps.none _ _))))); intro v1016 w84 ho85 hb hg_ hnew_; clear hg_ hnew_; (first | rw [← Ny1015.out] at ho85 | (simp only [Int.reduceToNat] at ho85; rw [← Ny1015.out] at ho85)); have HO1017 := am_ (Kd.R_lower ho85 (below_size bg_)); replace BK1001 := am_ (blk_below (g := gb1001) (vk_ BK1001) hb); replace HB := am_ (below_step bg_ hb); clear hb ho85; obtain ⟨Ao86, co86, eo86⟩ := Kd.R_slice HO1017.out; subst eo86) | ((with_reducible refine gate_callee (f := 64) rfl ?_); refine goesL_ (some 91) rfl rfl Tryd.func64 (by kernel_rfl) rfl #[.int .i64 a0_0, .slice Ao86 y1015.length co86] rfl ag_ ?_; (with_reducible refine (impl_isOne.calls kj53 a0_0 _ _ y1015 true _ ?side1 ?side2 A63.out).mono ?_); (case side1 => exact cc_ (Kd.R_reads' HO1017.out).2.2); (case side2 => exact (Kd.R_reads' HO1017.out).2.1); rintro e w' ⟨rfl, ⟨nd, rfl⟩⟩; refine ⟨_, rfl, ?_⟩; have hcz87_0 : w84.cell? ⟨gb1001, 0, none⟩ = some (.int .i64 a0_0) := (blk_cell BK1001.out 0).trans rfl; have hcz87_1 : w84.cell? ⟨gb1001, 1, none⟩ = some (.slice A0_1 l0_1.length c0_1) := (blk_cell BK1001.out 1).trans rfl; have hcz87_2 : w84.cell? ⟨gb1001, 2, none⟩ = some (.string a0_2) := (blk_cell BK1001.out 2).trans rfl; have hcz87_3 : w84.cell? ⟨gb1001, 3, none⟩ = some (.string a0_3) := (blk_cell BK1001.out 3).trans rfl; have hcz87_4 : w84.cell? ⟨gb1001, 4, none⟩ = some (.string a0_4) := (blk_cell BK1001.out 4).trans rfl; have hcz87_5 : w84.cell? ⟨gb1001, 5, none⟩ = some (.string a0_5) := (blk_cell BK1001.out 5).trans rfl; have hcz87_6 : w84.cell? ⟨gb1001, 6, none⟩ = some (.int .i64 a0_6) := (blk_cell BK1001.out 6).trans rfl; have hfz87_0 := bf_ BK1001 0; have hfz87_1 := bf_ BK1001 1; have hfz87_2 := bf_ BK1001 2; have hfz87_3 := bf_ BK1001 3; have hfz87_4 := bf_ BK1001 4; have hfz87_5 := bf_ BK1001 5; have hfz87_6 := bf_ BK1001 6))
                go_ret
                exact ⟨rf_, bg_⟩
             ·replace c64 := Bool.eq_false_iff.mpr c64
              subst c64
              have H1 : (if a0_3.toList = ([] : List UInt8) then (some true) else ((impl_isOne.f kj53 a0_0 (([4, 8] : List Int))).bind fun t1026 => (some (!t1026)))) = some r := by rw [if_neg (show ¬ (false = true) by decide)] at H; exact H
              clear H
              have H := H1
              clear H1
              by_cases c88 : a0_3.toList = ([] : List UInt8)
              ·rw [if_pos c88] at H
               have c88b0 : (a0_3.toList == ([] : List UInt8)) = true := beq_iff_eq.mpr c88
               have c88b1 : (a0_3.toList != ([] : List UInt8)) = false := bne_eq_false_iff_eq.mpr c88
               clear c88
               obtain rfl := Option.some.inj H
               go_wp2_with (first | ((with_reducible refine gate_dst (N := 90) rfl ?_); (try (refine gate_guard (by rfl) ?_; dsimp only)); refine Kd.R_lit (Kd.int .i64) _ 3 ?hg (N := 90) ?hd (xs := ([5, 6, 7] : List Int)) (inner := [.int .i64 5, .int .i64 6, .int .i64 7]) (ok := fun _ => True) (okp := fun _ => True) ?hr ?hp (fun _ hk => hk) trivial (Below.refl _ _) (Nat.le_refl _) (by simp) ?_; (case hd => rfl); (case hg => rfl); (case hr => first | (go_simp; done) | (go_simp; rfl)); (case hp => exact (Reps.one (show Kd.M (Kd.int .i64) _ _ _ 5 [.int .i64 5] from rfl) (Reps.one (show Kd.M (Kd.int .i64) _ _ _ 6 [.int .i64 6] from rfl) (Reps.one (show Kd.M (Kd.int .i64) _ _ _ 7 [.int .i64 7] from rfl) (Reps.none _ _))))); intro v1016 w89 ho90 hb hg_ hnew_; clear hg_ hnew_; (first | rw [← Ny1015.out] at ho90 | (simp only [Int.reduceToNat] at ho90; rw [← Ny1015.out] at ho90)); have HO1017 := am_ (Kd.R_lower ho90 (below_size bg_)); replace BK1001 := am_ (blk_below (g := gb1001) (vk_ BK1001) hb); replace HB := am_ (below_step bg_ hb); clear hb ho90; obtain ⟨Ao91, co91, eo91⟩ := Kd.R_slice HO1017.out; subst eo91) | ((with_reducible refine gate_callee (f := 64) rfl ?_); refine goesL_ (some 91) rfl rfl Tryd.func64 (by kernel_rfl) rfl #[.int .i64 a0_0, .slice Ao91 y1015.length co91] rfl ag_ ?_; (with_reducible refine (impl_isOne.calls kj53 a0_0 _ _ y1015 false _ ?side1 ?side2 A63.out).mono ?_); (case side1 => exact cc_ (Kd.R_reads' HO1017.out).2.2); (case side2 => exact (Kd.R_reads' HO1017.out).2.1); rintro e w' ⟨rfl, ⟨nd, rfl⟩⟩; refine ⟨_, rfl, ?_⟩; have hcz92_0 : w89.cell? ⟨gb1001, 0, none⟩ = some (.int .i64 a0_0) := (blk_cell BK1001.out 0).trans rfl; have hcz92_1 : w89.cell? ⟨gb1001, 1, none⟩ = some (.slice A0_1 l0_1.length c0_1) := (blk_cell BK1001.out 1).trans rfl; have hcz92_2 : w89.cell? ⟨gb1001, 2, none⟩ = some (.string a0_2) := (blk_cell BK1001.out 2).trans rfl; have hcz92_3 : w89.cell? ⟨gb1001, 3, none⟩ = some (.string a0_3) := (blk_cell BK1001.out 3).trans rfl; have hcz92_4 : w89.cell? ⟨gb1001, 4, none⟩ = some (.string a0_4) := (blk_cell BK1001.out 4).trans rfl; have hcz92_5 : w89.cell? ⟨gb1001, 5, none⟩ = some (.string a0_5) := (blk_cell BK1001.out 5).trans rfl; have hcz92_6 : w89.cell? ⟨gb1001, 6, none⟩ = some (.int .i64 a0_6) := (blk_cell BK1001.out 6).trans rfl; have hfz92_0 := bf_ BK1001 0; have hfz92_1 := bf_ BK1001 1; have hfz92_2 := bf_ BK1001 2; have hfz92_3 := bf_ BK1001 3; have hfz92_4 := bf_ BK1001 4; have hfz92_5 := bf_ BK1001 5; have hfz92_6 := bf_ BK1001 6))
               go_ret
               exact ⟨rf_, bg_⟩
              ·rw [if_neg c88] at H
               have c88b0 : (a0_3.toList == ([] : List UInt8)) = false := beq_eq_false_iff_ne.mpr c88
               have c88b1 : (a0_3.toList != ([] : List UInt8)) = true := bne_iff_ne.mpr c88
               obtain ⟨y1023, hy1023⟩ : ∃ y_ : List Int, y_ = (([4, 8] : List Int)) := ⟨_, rfl⟩
               replace H : ((impl_isOne.f kj53 a0_0 y1023).bind fun t1026 => (some (!t1026))) = some r := by first | (rw [hy1023]; with_reducible exact H) | (have H2_ := (Option.bind_some _ _).symm.trans H; rw [hy1023]; with_reducible exact H2_) | (have H2_ := (Option.bind_some _ _).symm.trans H; with_reducible exact H2_) | with_reducible exact H | (rw [hy1023]; exact H) | exact H
               have Ny1023 := am_ hy1023
               clear hy1023
               replace H := Option.bind_eq_some_iff.mp H
               obtain ⟨t1026, A930, H⟩ := H
               replace H : (some (!t1026)) = some r := H
               have A93 := am_ A930
               clear A930
               obtain rfl := Option.some.inj H
               go_wp2_with (first | ((with_reducible refine gate_dst (N := 90) rfl ?_); (try (refine gate_guard (by rfl) ?_; dsimp only)); refine Kd.R_lit (Kd.int .i64) _ 3 ?hg (N := 90) ?hd (xs := ([5, 6, 7] : List Int)) (inner := [.int .i64 5, .int .i64 6, .int .i64 7]) (ok := fun _ => True) (okp := fun _ => True) ?hr ?hp (fun _ hk => hk) trivial (Below.refl _ _) (Nat.le_refl _) (by simp) ?_; (case hd => rfl); (case hg => rfl); (case hr => first | (go_simp; done) | (go_simp; rfl)); (case hp => exact (Reps.one (show Kd.M (Kd.int .i64) _ _ _ 5 [.int .i64 5] from rfl) (Reps.one (show Kd.M (Kd.int .i64) _ _ _ 6 [.int .i64 6] from rfl) (Reps.one (show Kd.M (Kd.int .i64) _ _ _ 7 [.int .i64 7] from rfl) (Reps.none _ _))))); intro v1016 w94 ho95 hb hg_ hnew_; clear hg_ hnew_; (first | rw [← Ny1015.out] at ho95 | (simp only [Int.reduceToNat] at ho95; rw [← Ny1015.out] at ho95)); have HO1017 := am_ (Kd.R_lower ho95 (below_size bg_)); replace BK1001 := am_ (blk_below (g := gb1001) (vk_ BK1001) hb); replace HB := am_ (below_step bg_ hb); clear hb ho95; obtain ⟨Ao96, co96, eo96⟩ := Kd.R_slice HO1017.out; subst eo96) | ((with_reducible refine gate_callee (f := 64) rfl ?_); refine goesL_ (some 91) rfl rfl Tryd.func64 (by kernel_rfl) rfl #[.int .i64 a0_0, .slice Ao96 y1015.length co96] rfl ag_ ?_; (with_reducible refine (impl_isOne.calls kj53 a0_0 _ _ y1015 false _ ?side1 ?side2 A63.out).mono ?_); (case side1 => exact cc_ (Kd.R_reads' HO1017.out).2.2); (case side2 => exact (Kd.R_reads' HO1017.out).2.1); rintro e w' ⟨rfl, ⟨nd, rfl⟩⟩; refine ⟨_, rfl, ?_⟩; have hcz97_0 : w94.cell? ⟨gb1001, 0, none⟩ = some (.int .i64 a0_0) := (blk_cell BK1001.out 0).trans rfl; have hcz97_1 : w94.cell? ⟨gb1001, 1, none⟩ = some (.slice A0_1 l0_1.length c0_1) := (blk_cell BK1001.out 1).trans rfl; have hcz97_2 : w94.cell? ⟨gb1001, 2, none⟩ = some (.string a0_2) := (blk_cell BK1001.out 2).trans rfl; have hcz97_3 : w94.cell? ⟨gb1001, 3, none⟩ = some (.string a0_3) := (blk_cell BK1001.out 3).trans rfl; have hcz97_4 : w94.cell? ⟨gb1001, 4, none⟩ = some (.string a0_4) := (blk_cell BK1001.out 4).trans rfl; have hcz97_5 : w94.cell? ⟨gb1001, 5, none⟩ = some (.string a0_5) := (blk_cell BK1001.out 5).trans rfl; have hcz97_6 : w94.cell? ⟨gb1001, 6, none⟩ = some (.int .i64 a0_6) := (blk_cell BK1001.out 6).trans rfl; have hfz97_0 := bf_ BK1001 0; have hfz97_1 := bf_ BK1001 1; have hfz97_2 := bf_ BK1001 2; have hfz97_3 := bf_ BK1001 3; have hfz97_4 := bf_ BK1001 4; have hfz97_5 := bf_ BK1001 5; have hfz97_6 := bf_ BK1001 6) | ((with_reducible refine gate_dst (N := 108) rfl ?_); (try (refine gate_guard (by rfl) ?_; dsimp only)); refine Kd.R_lit (Kd.int .i64) _ 3 ?hg (N := 108) ?hd (xs := ([4, 8] : List Int)) (inner := [.int .i64 4, .int .i64 8]) (ok := fun _ => True) (okp := fun _ => True) ?hr ?hp (fun _ hk => hk) trivial (Below.refl _ _) (Nat.le_refl _) (by simp) ?_; (case hd => rfl); (case hg => rfl); (case hr => first | (go_simp; done) | (go_simp; rfl)); (case hp => exact (Reps.one (show Kd.M (Kd.int .i64) _ _ _ 4 [.int .i64 4] from rfl) (Reps.one (show Kd.M (Kd.int .i64) _ _ _ 8 [.int .i64 8] from rfl) (Reps.none _ _)))); intro v1024 w98 ho99 hb hg_ hnew_; clear hg_ hnew_; (first | rw [← Ny1023.out] at ho99 | (simp only [Int.reduceToNat] at ho99; rw [← Ny1023.out] at ho99)); have HO1025 := am_ (Kd.R_lower (Kd.R_new' ho99 (Kd.R_lt (ro_ HO1017))) (below_size bg_)); replace HO1017 := am_ (Kd.R_elder' (ro_ HO1017) (Kd.R_base ho99) hb); replace BK1001 := am_ (blk_below (g := gb1001) (vk_ BK1001) hb); replace HB := am_ (below_step bg_ hb); clear hb ho99; obtain ⟨Ao100, co100, eo100⟩ := Kd.R_slice HO1025.out; subst eo100) | (go_at_call 64; (with_reducible refine (impl_isOne.calls kj53 a0_0 _ _ y1023 t1026 _ ?side1 ?side2 A93.out).mono ?_); (case side1 => exact cc_ (Kd.R_reads' HO1025.out).2.2); (case side2 => exact (Kd.R_reads' HO1025.out).2.1); rintro e w' ⟨rfl, ⟨nd, rfl⟩⟩))
               go_ret
               exact ⟨rf_, bg_⟩

/-! ### strconv_Itoa_66: function 66 -/
def strconv_Itoa_66.f (a0 : Int) : Option (ByteArray) := if -9223372036854775808 ≤ a0 ∧ a0 ≤ 9223372036854775807 then some ⟨(Lib.itoa a0).toArray⟩ else none
theorem strconv_Itoa_66.calls (a0 : Int) (r : ByteArray) (w : World) (h : strconv_Itoa_66.f a0 = some r) (hT3 : Tg3 w := by exact Tg3.below hT3 bg_) :
  Calls Tryd.prog 66 #[.int .i64 a0] w fun e w' => e = .returned (.string r) ∧ Below w.heap.size w w' := by
 unfold strconv_Itoa_66.f at h
 split at h
 ·rename_i hl
  obtain rfl := Option.some.inj h
  exact (Tryd.strconv_Itoa a0 hl.1 hl.2 w hT3.c).mono (fun e w' hp => ⟨hp.1, by obtain ⟨k, os, rfl⟩ := hp.2; exact Lib.below_grow _ w (Nat.le_refl _) k os⟩)
 ·cases h

/-! ### impl_digitsOf: function 37 -/
def impl_digitsOf.f (a0 : Int) : Option (ByteArray) := (strconv_Itoa_66.f a0).bind fun t1001 => (some t1001)
set_option maxHeartbeats 8000000 in
set_option maxRecDepth 100000 in
theorem impl_digitsOf.calls (a0 : Int) (r : ByteArray) (w : World) (h : impl_digitsOf.f a0 = some r) (hT3 : Tg3 w := by exact Tg3.below hT3 bg_) :
  Calls Tryd.prog 37 #[.int .i64 a0] w fun e w' => e = .returned (.string r) ∧ Below w.heap.size w w' := by
 have HB := am_ (Below.refl w.heap.size w)
 have H : ((strconv_Itoa_66.f a0).bind fun t1001 => (some t1001)) = some r := h
 clear h
 replace H := Option.bind_eq_some_iff.mp H
 obtain ⟨t1001, A20, H⟩ := H
 replace H : (some t1001) = some r := H
 have A2 := am_ A20
 clear A20
 obtain rfl := Option.some.inj H
 go_enter Tryd.func37, Tryd.ntmps37
 go_wp2_with (first | ((with_reducible refine gate_callee (f := 66) rfl ?_); refine goesL_ (some 4) rfl rfl Tryd.func66 (by kernel_rfl) rfl #[.int .i64 a0] rfl ag_ ?_; (with_reducible refine (strconv_Itoa_66.calls a0 t1001 _ A2.out).mono ?_); rintro e w3 ⟨rfl, hb⟩; refine ⟨_, rfl, ?_⟩; replace HB := am_ (below_step bl_ hb); (try clear hb); (try clear hb2); (try clear hk); (try clear hi)))
 go_ret
 exact ⟨rf_, bl_⟩

end Go.Proofs.YtknlgignjbghkaaDoor.Pr
