/- Functions of the given program as plain Lean functions, and that the machine's calls come to them; written by a program of this session; no condition but those that each theorem states. -/
import Derived.Test.YtknlgignjbghkaaDoorShelf
import Derived.Test.YtknlgignjbghkaaDoorWRepsOne
import Derived.Test.YtknlgignjbghkaaDoorWFour
import Derived.Test.YtknlgignjbghkaaDoorPrx0
namespace Go.Proofs.YtknlgignjbghkaaDoor.Pr
open Go.RowKit Go.Proofs.YtknlgignjbghkaaDoorW.PrintWords Go.Proofs.YtknlgignjbghkaaDoorW.PrintLast Go.Proofs.YtknlgignjbghkaaDoorW.PrintMore
attribute [local go_sem] max2_int min2_int max_two min_two max_three min_three max_four min_four   -- for this text's walks alone
set_option linter.unusedVariables false
set_option linter.unusedSimpArgs false

/-! ### spec_l2Digit: function 67 -/
def spec_l2Digit.f (a0 : Int) : Option (Bool) := if a0 ≥ 48 then (some (decide (a0 ≤ 57))) else (some false)
set_option maxHeartbeats 8000000 in
set_option maxRecDepth 100000 in
theorem spec_l2Digit.calls (a0 : Int) (r : Bool) (w : World) (h : spec_l2Digit.f a0 = some r) :
  Calls Tryd.prog 67 #[.int .u8 a0] w fun e w' => e = .returned (.bool r) ∧ Drawn0 w w' := by
 have H : (if a0 ≥ 48 then (some (decide (a0 ≤ 57))) else (some false)) = some r := h
 clear h
 by_cases c2 : a0 ≥ 48
 ·rw [if_pos c2] at H
  have c2b0 : decide (48 ≤ a0) = true := decide_eq_true c2
  clear c2
  obtain rfl := Option.some.inj H
  go_enter Tryd.func67, Tryd.ntmps67
  go_wp2
  go_ret
  exact ⟨by first | rfl | (simp; done) | (simp [*]; done), by repeat (first | exact Drawn0.refl _ | apply Drawn0.step)⟩
 ·rw [if_neg c2] at H
  have c2b0 : decide (48 ≤ a0) = false := decide_eq_false c2
  clear c2
  obtain rfl := Option.some.inj H
  go_enter Tryd.func67, Tryd.ntmps67
  go_wp2
  go_ret
  exact ⟨by first | rfl | (simp; done) | (simp [*]; done), by repeat (first | exact Drawn0.refl _ | apply Drawn0.step)⟩

/-! ### spec_l2Letter: function 68 -/
def spec_l2Letter.f (a0 : Int) : Option (Bool) := if a0 ≥ 97 then (if a0 ≤ 122 then (some true) else (if a0 ≥ 65 then (some (decide (a0 ≤ 90))) else (some false))) else (if a0 ≥ 65 then (some (decide (a0 ≤ 90))) else (some false))
set_option maxHeartbeats 8000000 in
set_option maxRecDepth 100000 in
theorem spec_l2Letter.calls (a0 : Int) (r : Bool) (w : World) (h : spec_l2Letter.f a0 = some r) :
  Calls Tryd.prog 68 #[.int .u8 a0] w fun e w' => e = .returned (.bool r) ∧ Drawn0 w w' := by
 have H : (if a0 ≥ 97 then (if a0 ≤ 122 then (some true) else (if a0 ≥ 65 then (some (decide (a0 ≤ 90))) else (some false))) else (if a0 ≥ 65 then (some (decide (a0 ≤ 90))) else (some false))) = some r := h
 clear h
 by_cases c2 : a0 ≥ 97
 ·rw [if_pos c2] at H
  have c2b0 : decide (97 ≤ a0) = true := decide_eq_true c2
  clear c2
  by_cases c3 : a0 ≤ 122
  ·rw [if_pos c3] at H
   have c3b0 : decide (a0 ≤ 122) = true := decide_eq_true c3
   clear c3
   obtain rfl := Option.some.inj H
   go_enter Tryd.func68, Tryd.ntmps68
   go_wp2
   go_ret
   exact ⟨by first | rfl | (simp; done) | (simp [*]; done), by repeat (first | exact Drawn0.refl _ | apply Drawn0.step)⟩
  ·rw [if_neg c3] at H
   have c3b0 : decide (a0 ≤ 122) = false := decide_eq_false c3
   clear c3
   by_cases c4 : a0 ≥ 65
   ·rw [if_pos c4] at H
    have c4b0 : decide (65 ≤ a0) = true := decide_eq_true c4
    clear c4
    obtain rfl := Option.some.inj H
    go_enter Tryd.func68, Tryd.ntmps68
    go_wp2
    go_ret
    exact ⟨by first | rfl | (simp; done) | (simp [*]; done), by repeat (first | exact Drawn0.refl _ | apply Drawn0.step)⟩
   ·rw [if_neg c4] at H
    have c4b0 : decide (65 ≤ a0) = false := decide_eq_false c4
    clear c4
    obtain rfl := Option.some.inj H
    go_enter Tryd.func68, Tryd.ntmps68
    go_wp2
    go_ret
    exact ⟨by first | rfl | (simp; done) | (simp [*]; done), by repeat (first | exact Drawn0.refl _ | apply Drawn0.step)⟩
 ·rw [if_neg c2] at H
  have c2b0 : decide (97 ≤ a0) = false := decide_eq_false c2
  clear c2
  by_cases c5 : a0 ≥ 65
  ·rw [if_pos c5] at H
   have c5b0 : decide (65 ≤ a0) = true := decide_eq_true c5
   clear c5
   obtain rfl := Option.some.inj H
   go_enter Tryd.func68, Tryd.ntmps68
   go_wp2
   go_ret
   exact ⟨by first | rfl | (simp; done) | (simp [*]; done), by repeat (first | exact Drawn0.refl _ | apply Drawn0.step)⟩
  ·rw [if_neg c5] at H
   have c5b0 : decide (65 ≤ a0) = false := decide_eq_false c5
   clear c5
   obtain rfl := Option.some.inj H
   go_enter Tryd.func68, Tryd.ntmps68
   go_wp2
   go_ret
   exact ⟨by first | rfl | (simp; done) | (simp [*]; done), by repeat (first | exact Drawn0.refl _ | apply Drawn0.step)⟩

/-! ### spec_l2Name: function 39 -/
mutual
def spec_l2Name.j0 : Nat → ByteArray → Bool → Option (Bool)
 | 0, _, _ => none
 | k + 1, x0, x16 => if x16 = true then (some false) else (spec_l2Name.l0 k x0 0)
def spec_l2Name.l0 : Nat → ByteArray → Int → Option (Bool)
 | 0, _, _ => none
 | k + 1, x0, x3 => if x3 < (x0.size : Int) then (if 0 ≤ x3 then ((spec_l2Letter.f (bt x0 x3)).bind fun t1002 => (if t1002 = true then (spec_l2Name.l0 k x0 (wrap64 (x3 + 1))) else ((spec_l2Digit.f (bt x0 x3)).bind fun t1003 => (if t1003 = true then (spec_l2Name.l0 k x0 (wrap64 (x3 + 1))) else (if (bt x0 x3) = 95 then (spec_l2Name.l0 k x0 (wrap64 (x3 + 1))) else (some false)))))) else (none)) else (some true)
end
def spec_l2Name.f (k : Nat) (a0 : ByteArray) : Option (Bool) := if (a0.size : Int) < 1 then (spec_l2Name.j0 k a0 true) else (if (a0.size : Int) > 40 then (spec_l2Name.j0 k a0 true) else (if 0 < (a0.size : Int) then ((spec_l2Digit.f (bt a0 0)).bind fun t1001 => (spec_l2Name.j0 k a0 t1001)) else (none)))
theorem spec_l2Name.mono_l : ∀ k, (∀ y0 y1, LeO (spec_l2Name.j0 k y0 y1) (spec_l2Name.j0 (k + 1) y0 y1)) ∧ (∀ y0 y1, LeO (spec_l2Name.l0 k y0 y1) (spec_l2Name.l0 (k + 1) y0 y1))
 | 0 => ⟨fun _ _ r h => by simp [spec_l2Name.j0] at h, fun _ _ r h => by simp [spec_l2Name.l0] at h⟩
 | k + 1 => by
  obtain ⟨ih0, ih1⟩ := spec_l2Name.mono_l k
  refine ⟨?_, ?_⟩
  ·intro y0 y1
   unfold spec_l2Name.j0
   repeat' first
   | with_reducible first | exact ih0 _ _ | exact ih1 _ _ | exact LeO.refl _ | exact LeO.none _ | refine LeO.ite ?_ ?_ | refine LeO.bind ?_ (fun _ => ?_)
   | exact ih0 _ _
   | exact ih1 _ _
   | exact LeO.none _
   | refine LeO.ite ?_ ?_
   | refine LeO.bind ?_ (fun _ => ?_)
  ·intro y0 y1
   unfold spec_l2Name.l0
   repeat' first
   | with_reducible first | exact ih0 _ _ | exact ih1 _ _ | exact LeO.refl _ | exact LeO.none _ | refine LeO.ite ?_ ?_ | refine LeO.bind ?_ (fun _ => ?_)
   | exact ih0 _ _
   | exact ih1 _ _
   | exact LeO.none _
   | refine LeO.ite ?_ ?_
   | refine LeO.bind ?_ (fun _ => ?_)
theorem spec_l2Name.mono : ∀ a0 k, LeO (spec_l2Name.f k a0) (spec_l2Name.f (k + 1) a0) := by
 intro a0 k
 obtain ⟨ih0, ih1⟩ := spec_l2Name.mono_l k
 unfold spec_l2Name.f
 repeat' first
   | with_reducible first | exact ih0 _ _ | exact ih1 _ _ | exact LeO.refl _ | exact LeO.none _ | refine LeO.ite ?_ ?_ | refine LeO.bind ?_ (fun _ => ?_)
   | exact ih0 _ _
   | exact ih1 _ _
   | exact LeO.none _
   | refine LeO.ite ?_ ?_
   | refine LeO.bind ?_ (fun _ => ?_)
set_option maxHeartbeats 8000000 in
set_option maxRecDepth 100000 in
theorem spec_l2Name.calls (k : Nat) (a0 : ByteArray) (r : Bool) (w : World) (h : spec_l2Name.f k a0 = some r) :
  Calls Tryd.prog 39 #[.string a0] w fun e w' => e = .returned (.bool r) ∧ Drawn0 w w' := by
 have H : (if (a0.size : Int) < 1 then (spec_l2Name.j0 k a0 true) else (if (a0.size : Int) > 40 then (spec_l2Name.j0 k a0 true) else (if 0 < (a0.size : Int) then ((spec_l2Digit.f (bt a0 0)).bind fun t1001 => (spec_l2Name.j0 k a0 t1001)) else (none)))) = some r := h
 clear h
 have HC2 := am_ H
 clear H
 go_enter Tryd.func39, Tryd.ntmps39
 go_upto_region 1 with (fail)
 go_cut [16] (fun v16 wc => ∃ (kq : Nat) (x16_1 : Bool), v16 = .bool x16_1 ∧ Aside0 (spec_l2Name.j0 kq a0 x16_1 = some r) ∧ Aside0 (kq ≤ k) ∧ Drawn0 w wc)
 case first =>
  have H := HC2.out
  clear HC2
  by_cases c3 : (a0.size : Int) < 1
  ·rw [if_pos c3] at H
   have c3b0 : decide ((a0.size : Int) < 1) = true := decide_eq_true c3
   have c3b1 : decide (a0.size < 1) = true := decide_eq_true (by omega)
   clear c3
   (first | rw [c3b0] | (simp only [i64_w, i32_w]; rw [c3b0]) | skip)
   have H' := am_ H
   clear H
   go_wp2
   go_meet
   case rel => exact ⟨_, (true), rs_, H', ⟨by first | omega | exact Nat.le_refl _⟩, by repeat (first | exact Drawn0.refl _ | apply Drawn0.step)⟩
  ·rw [if_neg c3] at H
   have c3b0 : decide ((a0.size : Int) < 1) = false := decide_eq_false c3
   have c3b1 : decide (a0.size < 1) = false := decide_eq_false (by omega)
   clear c3
   (first | rw [c3b0] | (simp only [i64_w, i32_w]; rw [c3b0]) | skip)
   by_cases c4 : (a0.size : Int) > 40
   ·rw [if_pos c4] at H
    have c4b0 : decide (40 < (a0.size : Int)) = true := decide_eq_true c4
    have c4b1 : decide (40 < a0.size) = true := decide_eq_true (by omega)
    clear c4
    have H' := am_ H
    clear H
    go_wp2
    go_meet
    case rel => exact ⟨_, (true), rs_, H', ⟨by first | omega | exact Nat.le_refl _⟩, by repeat (first | exact Drawn0.refl _ | apply Drawn0.step)⟩
   ·rw [if_neg c4] at H
    have c4b0 : decide (40 < (a0.size : Int)) = false := decide_eq_false c4
    have c4b1 : decide (40 < a0.size) = false := decide_eq_false (by omega)
    clear c4
    by_cases c5 : 0 < (a0.size : Int)
    ·rw [if_pos c5] at H
     have c5b0 : decide (0 < (a0.size : Int)) = true := decide_eq_true c5
     have c5b1 : decide (0 < a0.size) = true := decide_eq_true (by omega)
     clear c5
     replace H := Option.bind_eq_some_iff.mp H
     obtain ⟨t1001, A70, H⟩ := H
     replace H : (spec_l2Name.j0 k a0 t1001) = some r := H
     have A7 := am_ A70
     clear A70
     have H' := am_ H
     clear H
     have p6 : 0 ≤ (0 : Int) := (by omega)
     have q6 : 0 < a0.size := (by have : (0 : Int) < (a0.size : Int) := od_; omega)
     have hx6 : ∀ h : 0 < a0.size, ((a0[0]'h).toNat : Int) = bt a0 0 := bt_at a0 0
     clear p6
     have qi6 : (0 < (a0.size : Int)) = True := eq_true (od_)
     replace q6 := eq_true q6
     go_wp2_with (first | (go_at_call 67; (with_reducible refine (spec_l2Digit.calls (bt a0 0) t1001 _ A7.out).mono ?_); rintro e w' ⟨rfl, ⟨nd, rfl⟩⟩))
     go_meet
     case rel => exact ⟨_, (t1001), rs_, H', ⟨by first | omega | exact Nat.le_refl _⟩, by repeat (first | exact Drawn0.refl _ | apply Drawn0.step)⟩
    ·rw [if_neg c5] at H
     exact absurd H (by simp)
 case rest =>
  clear HC2
  try clear p2
  try clear c3
  try clear c3b0
  try clear c3b1
  try clear c4
  try clear c4b0
  try clear c4b1
  try clear c5
  try clear c5b0
  try clear c5b1
  try clear p6
  try clear q6
  try clear hx6
  try clear qi6
  try clear p6
  try clear q6
  obtain ⟨kq, x16_1, rfl, HA, HJ1, ⟨mc1, rfl⟩⟩ := hcut
  cases kq with
  | zero => exact absurd HA.out (by simp [spec_l2Name.j0])
  | succ kj1 =>
   have H := HA.out
   clear HA
   simp only [spec_l2Name.j0] at H
   by_cases c8 : x16_1 = true
   ·subst c8
    have H1 : (some false) = some r := by rw [if_pos rfl] at H; exact H
    clear H
    have H := H1
    clear H1
    obtain rfl := Option.some.inj H
    go_wp2
    go_ret
    exact ⟨by first | rfl | (simp; done) | (simp [*]; done), by repeat (first | exact Drawn0.refl _ | apply Drawn0.step)⟩
   ·replace c8 := Bool.eq_false_iff.mpr c8
    subst c8
    have H1 : (spec_l2Name.l0 kj1 a0 0) = some r := by rw [if_neg (show ¬ (false = true) by decide)] at H; exact H
    clear H
    have H := H1
    clear H1
    have H' := am_ H
    clear H
    go_wp2
    go_loopg [3] kj1 (fun kq v3 w' => ∃ (x3_2 : Int), v3 = .int .i64 x3_2 ∧ Aside0 (spec_l2Name.l0 kq a0 x3_2 = some r) ∧ Aside0 (kq ≤ kj1) ∧ Drawn0 w w')
    case atStart => exact ⟨(0), rs_, H', ⟨Nat.le_refl _⟩, by repeat (first | exact Drawn0.refl _ | apply Drawn0.step)⟩
    case round =>
     clear H'
     try clear c1
     try clear p2
     try clear c3
     try clear c3b0
     try clear c3b1
     try clear c4
     try clear c4b0
     try clear c4b1
     try clear c5
     try clear c5b0
     try clear c5b1
     try clear p6
     try clear q6
     try clear hx6
     try clear qi6
     try clear c8
     try clear p2
     try clear p6
     try clear q6
     obtain ⟨x3_2, rfl, HA, HK2, ⟨m2, rfl⟩⟩ := hrel
     cases gk with
     | zero => exact absurd HA.out (by simp [spec_l2Name.l0])
     | succ k2 =>
      have H := HA.out
      clear HA
      simp only [spec_l2Name.l0] at H
      by_cases c9 : x3_2 < (a0.size : Int)
      ·rw [if_pos c9] at H
       have c9b0 : decide (x3_2 < (a0.size : Int)) = true := decide_eq_true c9
       clear c9
       by_cases c10 : 0 ≤ x3_2
       ·rw [if_pos c10] at H
        have c10b0 : decide (0 ≤ x3_2) = true := decide_eq_true c10
        clear c10
        replace H := Option.bind_eq_some_iff.mp H
        obtain ⟨t1002, A120, H⟩ := H
        replace H : (if t1002 = true then (spec_l2Name.l0 k2 a0 (wrap64 (x3_2 + 1))) else ((spec_l2Digit.f (bt a0 x3_2)).bind fun t1003 => (if t1003 = true then (spec_l2Name.l0 k2 a0 (wrap64 (x3_2 + 1))) else (if (bt a0 x3_2) = 95 then (spec_l2Name.l0 k2 a0 (wrap64 (x3_2 + 1))) else (some false))))) = some r := H
        have A12 := am_ A120
        clear A120
        by_cases c13 : t1002 = true
        ·subst c13
         have H1 : (spec_l2Name.l0 k2 a0 (wrap64 (x3_2 + 1))) = some r := by rw [if_pos rfl] at H; exact H
         clear H
         have H := H1
         clear H1
         have H' := am_ H
         clear H
         have p11 : 0 ≤ (x3_2 : Int) := od_
         have q11 : x3_2 < (a0.size : Int) := od_
         have hx11 := bt_at a0 x3_2
         replace p11 := eq_true p11
         replace q11 := eq_true q11
         go_wp2_with (first | ((with_reducible refine gate_callee (f := 68) rfl ?_); refine goesL_ (some 26) rfl rfl Tryd.func68 (by kernel_rfl) rfl #[.int .u8 (bt a0 x3_2)] rfl ag_ ?_; (with_reducible refine (spec_l2Letter.calls (bt a0 x3_2) true _ A12.out).mono ?_); rintro e w' ⟨rfl, ⟨nd, rfl⟩⟩; refine ⟨_, rfl, ?_⟩))
         go_roundg k2
         case measure => have := HJ1.out; have := HK2.out; omega
         case rel => exact ⟨(wrap64 (x3_2 + 1)), rs_, H', ⟨by have := HJ1.out; have := HK2.out; omega⟩, by repeat (first | exact Drawn0.refl _ | apply Drawn0.step)⟩
        ·replace c13 := Bool.eq_false_iff.mpr c13
         subst c13
         have H1 : ((spec_l2Digit.f (bt a0 x3_2)).bind fun t1003 => (if t1003 = true then (spec_l2Name.l0 k2 a0 (wrap64 (x3_2 + 1))) else (if (bt a0 x3_2) = 95 then (spec_l2Name.l0 k2 a0 (wrap64 (x3_2 + 1))) else (some false)))) = some r := by rw [if_neg (show ¬ (false = true) by decide)] at H; exact H
         clear H
         have H := H1
         clear H1
         replace H := Option.bind_eq_some_iff.mp H
         obtain ⟨t1003, A150, H⟩ := H
         replace H : (if t1003 = true then (spec_l2Name.l0 k2 a0 (wrap64 (x3_2 + 1))) else (if (bt a0 x3_2) = 95 then (spec_l2Name.l0 k2 a0 (wrap64 (x3_2 + 1))) else (some false))) = some r := H
         have A15 := am_ A150
         clear A150
         by_cases c16 : t1003 = true
         ·subst c16
          have H1 : (spec_l2Name.l0 k2 a0 (wrap64 (x3_2 + 1))) = some r := by rw [if_pos rfl] at H; exact H
          clear H
          have H := H1
          clear H1
          have H' := am_ H
          clear H
          have p11 : 0 ≤ (x3_2 : Int) := od_
          have q11 : x3_2 < (a0.size : Int) := od_
          have hx11 := bt_at a0 x3_2
          replace p11 := eq_true p11
          replace q11 := eq_true q11
          go_wp2_with (first | ((with_reducible refine gate_callee (f := 68) rfl ?_); refine goesL_ (some 26) rfl rfl Tryd.func68 (by kernel_rfl) rfl #[.int .u8 (bt a0 x3_2)] rfl ag_ ?_; (with_reducible refine (spec_l2Letter.calls (bt a0 x3_2) false _ A12.out).mono ?_); rintro e w' ⟨rfl, ⟨nd, rfl⟩⟩; refine ⟨_, rfl, ?_⟩; have p14 : 0 ≤ (x3_2 : Int) := od_; have q14 : x3_2 < (a0.size : Int) := od_; have hx14 := bt_at a0 x3_2; replace p14 := eq_true p14; replace q14 := eq_true q14) | (go_at_call 67; (with_reducible refine (spec_l2Digit.calls (bt a0 x3_2) true _ A15.out).mono ?_); rintro e w' ⟨rfl, ⟨nd, rfl⟩⟩))
          go_roundg k2
          case measure => have := HJ1.out; have := HK2.out; omega
          case rel => exact ⟨(wrap64 (x3_2 + 1)), rs_, H', ⟨by have := HJ1.out; have := HK2.out; omega⟩, by repeat (first | exact Drawn0.refl _ | apply Drawn0.step)⟩
         ·replace c16 := Bool.eq_false_iff.mpr c16
          subst c16
          have H1 : (if (bt a0 x3_2) = 95 then (spec_l2Name.l0 k2 a0 (wrap64 (x3_2 + 1))) else (some false)) = some r := by rw [if_neg (show ¬ (false = true) by decide)] at H; exact H
          clear H
          have H := H1
          clear H1
          by_cases c18 : (bt a0 x3_2) = 95
          ·rw [if_pos c18] at H
           have c18b0 : ((bt a0 x3_2) == 95) = true := beq_iff_eq.mpr c18
           have c18b1 : ((bt a0 x3_2) != 95) = false := bne_eq_false_iff_eq.mpr c18
           clear c18
           have H' := am_ H
           clear H
           have p11 : 0 ≤ (x3_2 : Int) := od_
           have q11 : x3_2 < (a0.size : Int) := od_
           have hx11 := bt_at a0 x3_2
           replace p11 := eq_true p11
           replace q11 := eq_true q11
           go_wp2_with (first | ((with_reducible refine gate_callee (f := 68) rfl ?_); refine goesL_ (some 26) rfl rfl Tryd.func68 (by kernel_rfl) rfl #[.int .u8 (bt a0 x3_2)] rfl ag_ ?_; (with_reducible refine (spec_l2Letter.calls (bt a0 x3_2) false _ A12.out).mono ?_); rintro e w' ⟨rfl, ⟨nd, rfl⟩⟩; refine ⟨_, rfl, ?_⟩; have p14 : 0 ≤ (x3_2 : Int) := od_; have q14 : x3_2 < (a0.size : Int) := od_; have hx14 := bt_at a0 x3_2; replace p14 := eq_true p14; replace q14 := eq_true q14) | (go_at_call 67; (with_reducible refine (spec_l2Digit.calls (bt a0 x3_2) false _ A15.out).mono ?_); rintro e w' ⟨rfl, ⟨nd, rfl⟩⟩; have p17 : 0 ≤ (x3_2 : Int) := od_; have q17 : x3_2 < (a0.size : Int) := od_; have hx17 := bt_at a0 x3_2; replace p17 := eq_true p17; replace q17 := eq_true q17))
           go_roundg k2
           case measure => have := HJ1.out; have := HK2.out; omega
           case rel => exact ⟨(wrap64 (x3_2 + 1)), rs_, H', ⟨by have := HJ1.out; have := HK2.out; omega⟩, by repeat (first | exact Drawn0.refl _ | apply Drawn0.step)⟩
          ·rw [if_neg c18] at H
           have c18b0 : ((bt a0 x3_2) == 95) = false := beq_eq_false_iff_ne.mpr c18
           have c18b1 : ((bt a0 x3_2) != 95) = true := bne_iff_ne.mpr c18
           obtain rfl := Option.some.inj H
           have p11 : 0 ≤ (x3_2 : Int) := od_
           have q11 : x3_2 < (a0.size : Int) := od_
           have hx11 := bt_at a0 x3_2
           replace p11 := eq_true p11
           replace q11 := eq_true q11
           go_wp2_with (first | ((with_reducible refine gate_callee (f := 68) rfl ?_); refine goesL_ (some 26) rfl rfl Tryd.func68 (by kernel_rfl) rfl #[.int .u8 (bt a0 x3_2)] rfl ag_ ?_; (with_reducible refine (spec_l2Letter.calls (bt a0 x3_2) false _ A12.out).mono ?_); rintro e w' ⟨rfl, ⟨nd, rfl⟩⟩; refine ⟨_, rfl, ?_⟩; have p14 : 0 ≤ (x3_2 : Int) := od_; have q14 : x3_2 < (a0.size : Int) := od_; have hx14 := bt_at a0 x3_2; replace p14 := eq_true p14; replace q14 := eq_true q14) | (go_at_call 67; (with_reducible refine (spec_l2Digit.calls (bt a0 x3_2) false _ A15.out).mono ?_); rintro e w' ⟨rfl, ⟨nd, rfl⟩⟩; have p17 : 0 ≤ (x3_2 : Int) := od_; have q17 : x3_2 < (a0.size : Int) := od_; have hx17 := bt_at a0 x3_2; replace p17 := eq_true p17; replace q17 := eq_true q17))
           go_ret
           exact ⟨by first | rfl | (simp; done) | (simp [*]; done), by repeat (first | exact Drawn0.refl _ | apply Drawn0.step)⟩
       ·rw [if_neg c10] at H
        exact absurd H (by simp)
      ·rw [if_neg c9] at H
       have c9b0 : decide (x3_2 < (a0.size : Int)) = false := decide_eq_false c9
       clear c9
       obtain rfl := Option.some.inj H
       go_wp2
       go_ret
       exact ⟨by first | rfl | (simp; done) | (simp [*]; done), by repeat (first | exact Drawn0.refl _ | apply Drawn0.step)⟩

/-! ### spec_l2Printed: function 40 -/
def spec_l2Printed.l0 : Nat → ByteArray → Int → Option (Bool)
 | 0, _, _ => none
 | k + 1, x0, x3 => if x3 < (x0.size : Int) then (if 0 ≤ x3 then (if (bt x0 x3) < 32 then (some false) else (if (bt x0 x3) > 126 then (some false) else (spec_l2Printed.l0 k x0 (wrap64 (x3 + 1))))) else (none)) else (some true)
def spec_l2Printed.f (k : Nat) (a0 : ByteArray) : Option (Bool) := spec_l2Printed.l0 k a0 0
theorem spec_l2Printed.mono_l : ∀ k, (∀ y0 y1, LeO (spec_l2Printed.l0 k y0 y1) (spec_l2Printed.l0 (k + 1) y0 y1))
 | 0 => fun _ _ r h => by simp [spec_l2Printed.l0] at h
 | k + 1 => by
  have ih0 := spec_l2Printed.mono_l k
  ·intro y0 y1
   unfold spec_l2Printed.l0
   repeat' first
   | with_reducible first | exact ih0 _ _ | exact LeO.refl _ | exact LeO.none _ | refine LeO.ite ?_ ?_ | refine LeO.bind ?_ (fun _ => ?_)
   | exact ih0 _ _
   | exact LeO.none _
   | refine LeO.ite ?_ ?_
   | refine LeO.bind ?_ (fun _ => ?_)
theorem spec_l2Printed.mono : ∀ a0 k, LeO (spec_l2Printed.f k a0) (spec_l2Printed.f (k + 1) a0) := by
 intro a0 k
 have ih0 := spec_l2Printed.mono_l k
 unfold spec_l2Printed.f
 repeat' first
   | with_reducible first | exact ih0 _ _ | exact LeO.refl _ | exact LeO.none _ | refine LeO.ite ?_ ?_ | refine LeO.bind ?_ (fun _ => ?_)
   | exact ih0 _ _
   | exact LeO.none _
   | refine LeO.ite ?_ ?_
   | refine LeO.bind ?_ (fun _ => ?_)
set_option maxHeartbeats 8000000 in
set_option maxRecDepth 100000 in
theorem spec_l2Printed.calls (k : Nat) (a0 : ByteArray) (r : Bool) (w : World) (h : spec_l2Printed.f k a0 = some r) :
  Calls Tryd.prog 40 #[.string a0] w fun e w' => e = .returned (.bool r) ∧ Drawn0 w w' := by
 have H : (spec_l2Printed.l0 k a0 0) = some r := h
 clear h
 have H' := am_ H
 clear H
 go_enter Tryd.func40, Tryd.ntmps40
 go_wp2
 go_loopg [3] k (fun kq v3 w' => ∃ (x3_1 : Int), v3 = .int .i64 x3_1 ∧ Aside0 (spec_l2Printed.l0 kq a0 x3_1 = some r) ∧ Aside0 (kq ≤ k) ∧ Drawn0 w w')
 case atStart => exact ⟨(0), rs_, H', ⟨Nat.le_refl _⟩, by repeat (first | exact Drawn0.refl _ | apply Drawn0.step)⟩
 case round =>
  clear H'
  obtain ⟨x3_1, rfl, HA, HK1, ⟨m1, rfl⟩⟩ := hrel
  cases gk with
  | zero => exact absurd HA.out (by simp [spec_l2Printed.l0])
  | succ k1 =>
   have H := HA.out
   clear HA
   simp only [spec_l2Printed.l0] at H
   by_cases c2 : x3_1 < (a0.size : Int)
   ·rw [if_pos c2] at H
    have c2b0 : decide (x3_1 < (a0.size : Int)) = true := decide_eq_true c2
    clear c2
    by_cases c3 : 0 ≤ x3_1
    ·rw [if_pos c3] at H
     have c3b0 : decide (0 ≤ x3_1) = true := decide_eq_true c3
     clear c3
     by_cases c5 : (bt a0 x3_1) < 32
     ·rw [if_pos c5] at H
      have c5b0 : decide ((bt a0 x3_1) < 32) = true := decide_eq_true c5
      clear c5
      obtain rfl := Option.some.inj H
      have p4 : 0 ≤ (x3_1 : Int) := od_
      have q4 : x3_1 < (a0.size : Int) := od_
      have hx4 := bt_at a0 x3_1
      replace p4 := eq_true p4
      replace q4 := eq_true q4
      go_wp2
      go_ret
      exact ⟨by first | rfl | (simp; done) | (simp [*]; done), by repeat (first | exact Drawn0.refl _ | apply Drawn0.step)⟩
     ·rw [if_neg c5] at H
      have c5b0 : decide ((bt a0 x3_1) < 32) = false := decide_eq_false c5
      clear c5
      by_cases c7 : (bt a0 x3_1) > 126
      ·rw [if_pos c7] at H
       have c7b0 : decide (126 < (bt a0 x3_1)) = true := decide_eq_true c7
       clear c7
       obtain rfl := Option.some.inj H
       have p4 : 0 ≤ (x3_1 : Int) := od_
       have q4 : x3_1 < (a0.size : Int) := od_
       have hx4 := bt_at a0 x3_1
       replace p4 := eq_true p4
       replace q4 := eq_true q4
       have p6 : 0 ≤ (x3_1 : Int) := od_
       have q6 : x3_1 < (a0.size : Int) := od_
       have hx6 := bt_at a0 x3_1
       replace p6 := eq_true p6
       replace q6 := eq_true q6
       go_wp2
       go_ret
       exact ⟨by first | rfl | (simp; done) | (simp [*]; done), by repeat (first | exact Drawn0.refl _ | apply Drawn0.step)⟩
      ·rw [if_neg c7] at H
       have c7b0 : decide (126 < (bt a0 x3_1)) = false := decide_eq_false c7
       clear c7
       have H' := am_ H
       clear H
       have p4 : 0 ≤ (x3_1 : Int) := od_
       have q4 : x3_1 < (a0.size : Int) := od_
       have hx4 := bt_at a0 x3_1
       replace p4 := eq_true p4
       replace q4 := eq_true q4
       have p6 : 0 ≤ (x3_1 : Int) := od_
       have q6 : x3_1 < (a0.size : Int) := od_
       have hx6 := bt_at a0 x3_1
       replace p6 := eq_true p6
       replace q6 := eq_true q6
       go_wp2
       go_roundg k1
       case measure => have := HK1.out; omega
       case rel => exact ⟨(wrap64 (x3_1 + 1)), rs_, H', ⟨by have := HK1.out; omega⟩, by repeat (first | exact Drawn0.refl _ | apply Drawn0.step)⟩
    ·rw [if_neg c3] at H
     exact absurd H (by simp)
   ·rw [if_neg c2] at H
    have c2b0 : decide (x3_1 < (a0.size : Int)) = false := decide_eq_false c2
    clear c2
    obtain rfl := Option.some.inj H
    go_wp2
    go_ret
    exact ⟨by first | rfl | (simp; done) | (simp [*]; done), by repeat (first | exact Drawn0.refl _ | apply Drawn0.step)⟩

/-! ### spec_l2Alternatives: function 69 -/
def kcut : Kd (Option Addr × Nat × Nat) := Kd.scalar (fun x => .slice x.1 x.2.1 x.2.2) (fun _ => rfl)
theorem move_apart {α : Type} {d : Kd α} {e base : Nat} {W w1 : World} {v v1 x : Value} {o : List α} (h4 : Kd.S d e W base (fun k => some k ≠ v.ownBlock) x o) (hg : W.grownBy w1 v.ownBlock) (hat : v1.ownBlock = v.ownBlock ∨ ∃ b, v1.ownBlock = some b ∧ W.heap.size ≤ b) : Kd.S d e w1 base (fun k => some k ≠ v1.ownBlock) x o :=
 Kd.S_mono (Kd.S_after (ok := fun _ => True) (Kd.S_mono h4 (fun _ hk => ⟨trivial, hk⟩)) hg hat) (fun _ hk => hk.2)
theorem sq_ {p q : Prop} (H : Aside0 p) (h : p → q := by (intro hv_; (with_reducible repeat (first | apply Kd.S_alloc | apply Kd.S_drewN | apply Kd.S_drew)); exact hv_)) : q := h H.out
def okE (d : Int) : Bool := decide (d = 42) || decide (d = 63) || decide (d = 124) || decide (d = 92)
/-- A pattern's alternatives, each as its codes: a byte, -1 for any bytes, -2 for one. -/
def altS (s : ByteArray) : Nat → Nat → List (List Int) → List Int → List (List Int) × Bool
 | 0, _, o, nw => (o ++ [nw], true)
 | d + 1, i, o, nw => if i < s.size then (if bt s (i : Int) = 124 then altS s d (i + 1) (o ++ [nw]) [] else if bt s (i : Int) = 42 then altS s d (i + 1) o (nw ++ [-1]) else if bt s (i : Int) = 63 then altS s d (i + 1) o (nw ++ [-2]) else if bt s (i : Int) = 92 then (if i + 1 < s.size then (if okE (bt s ((i + 1 : Nat) : Int)) = true then altS s d (i + 2) o (nw ++ [bt s ((i + 1 : Nat) : Int)]) else ([], false)) else ([], false)) else altS s d (i + 1) o (nw ++ [bt s (i : Int)])) else (o ++ [nw], true)
theorem altS_more (s : ByteArray) : ∀ (d d' i : Nat) (o : List (List Int)) (nw : List Int), s.size - i ≤ d → s.size - i ≤ d' → altS s d i o nw = altS s d' i o nw := by
 intro d
 induction d with
 | zero =>
  intro d' i o nw h _
  cases d' with
  | zero => rfl
  | succ d' => simp only [altS]; rw [if_neg (by omega)]
 | succ d ih =>
  intro d' i o nw h h'
  by_cases hi : i < s.size
  ·obtain ⟨d', rfl⟩ : ∃ m, d' = m + 1 := ⟨d' - 1, by omega⟩
   simp only [altS]
   rw [if_pos hi, if_pos hi, ih d' (i + 2) _ _ (by omega) (by omega), ih d' (i + 1) (o ++ [nw]) _ (by omega) (by omega), ih d' (i + 1) o (nw ++ [-1]) (by omega) (by omega), ih d' (i + 1) o (nw ++ [-2]) (by omega) (by omega), ih d' (i + 1) o (nw ++ [bt s (i : Int)]) (by omega) (by omega)]
  ·cases d' with
   | zero => simp only [altS]; rw [if_neg hi]
   | succ d' => simp only [altS]; rw [if_neg hi, if_neg hi]
def altA (s : ByteArray) (i : Nat) (o : List (List Int)) (nw : List Int) : List (List Int) × Bool := altS s (s.size - i) i o nw
theorem altA_end {s : ByteArray} {i : Nat} {o : List (List Int)} {nw : List Int} (h : ¬ i < s.size) : altA s i o nw = (o ++ [nw], true) := by unfold altA; rw [show s.size - i = 0 from by omega]; rfl
theorem altA_one {s : ByteArray} {i : Nat} {o : List (List Int)} {nw : List Int} (h : i < s.size) : altA s i o nw = if bt s (i : Int) = 124 then altA s (i + 1) (o ++ [nw]) [] else if bt s (i : Int) = 42 then altA s (i + 1) o (nw ++ [-1]) else if bt s (i : Int) = 63 then altA s (i + 1) o (nw ++ [-2]) else if bt s (i : Int) = 92 then (if i + 1 < s.size then (if okE (bt s ((i + 1 : Nat) : Int)) = true then altA s (i + 2) o (nw ++ [bt s ((i + 1 : Nat) : Int)]) else ([], false)) else ([], false)) else altA s (i + 1) o (nw ++ [bt s (i : Int)]) := by
 unfold altA
 rw [show s.size - i = (s.size - (i + 1)) + 1 from by omega]
 simp only [altS]
 rw [if_pos h, altS_more s (s.size - (i + 1)) (s.size - (i + 2)) (i + 2) _ _ (by omega) (by omega)]
theorem altA_bar {s : ByteArray} {i : Nat} {o : List (List Int)} {nw : List Int} (h : i < s.size) (hc : bt s (i : Int) = 124) : altA s i o nw = altA s (i + 1) (o ++ [nw]) [] := by rw [altA_one h, if_pos hc]
theorem altA_star {s : ByteArray} {i : Nat} {o : List (List Int)} {nw : List Int} (h : i < s.size) (hc : bt s (i : Int) = 42) : altA s i o nw = altA s (i + 1) o (nw ++ [-1]) := by rw [altA_one h, if_neg (by omega), if_pos hc]
theorem altA_any {s : ByteArray} {i : Nat} {o : List (List Int)} {nw : List Int} (h : i < s.size) (hc : bt s (i : Int) = 63) : altA s i o nw = altA s (i + 1) o (nw ++ [-2]) := by rw [altA_one h, if_neg (by omega), if_neg (by omega), if_pos hc]
theorem altA_cut {s : ByteArray} {i : Nat} {o : List (List Int)} {nw : List Int} (h : i < s.size) (hc : bt s (i : Int) = 92) (h' : ¬ i + 1 < s.size) : altA s i o nw = ([], false) := by rw [altA_one h, if_neg (by omega), if_neg (by omega), if_neg (by omega), if_pos hc, if_neg h']
theorem altA_esc {s : ByteArray} {i : Nat} {o : List (List Int)} {nw : List Int} (h : i + 1 < s.size) (hc : bt s (i : Int) = 92) : altA s i o nw = if okE (bt s ((i + 1 : Nat) : Int)) = true then altA s (i + 2) o (nw ++ [bt s ((i + 1 : Nat) : Int)]) else ([], false) := by rw [altA_one (by omega), if_neg (by omega), if_neg (by omega), if_neg (by omega), if_pos hc, if_pos h]
theorem altA_on {s : ByteArray} {i : Nat} {o : List (List Int)} {nw : List Int} (h : i < s.size) (h1 : bt s (i : Int) ≠ 124) (h2 : bt s (i : Int) ≠ 42) (h3 : bt s (i : Int) ≠ 63) (h4 : bt s (i : Int) ≠ 92) : altA s i o nw = altA s (i + 1) o (nw ++ [bt s (i : Int)]) := by rw [altA_one h, if_neg h1, if_neg h2, if_neg h3, if_neg h4]
theorem wrap_bt (s : ByteArray) (i : Int) : wrap64 (bt s i) = bt s i := by have := bt_range s i; unfold wrap64; omega
def spec_l2Alternatives.f (k : Nat) (a0 : ByteArray) : Option (List (List Int) × Bool) := if (a0.size : Int) > 100 then some ([], false) else (spec_l2Printed.f k a0).bind fun t => if t = true then some (altA a0 0 [] []) else some ([], false)
theorem spec_l2Alternatives.mono : ∀ a0 k, LeO (spec_l2Alternatives.f k a0) (spec_l2Alternatives.f (k + 1) a0) := by
 intro a0 k
 unfold spec_l2Alternatives.f
 exact LeO.ite (LeO.refl _) (LeO.bind (spec_l2Printed.mono _ _) (fun _ => LeO.refl _))
set_option maxHeartbeats 16000000 in
set_option maxRecDepth 100000 in
theorem spec_l2Alternatives.calls (k : Nat) (a0 : ByteArray) (r1 : List (List Int)) (r2 : Bool) (w : World) (h : spec_l2Alternatives.f k a0 = some (r1, r2)) :
  Calls Tryd.prog 69 #[.string a0] w fun e w' => ∃ v0_ : Value, e = .returned (.tuple #[v0_, .bool r2]) ∧ Kd.S (Kd.slice 3 (Kd.int .i64)) 102 w' w.heap.size (fun _ => True) v0_ r1 ∧ Below w.heap.size w w' := by
 have i3 : (Tryd.prog.info? 3).map (fun i => (i.zero, i.size, i.bytes)) = some (some (.int .i64 0), 1, 8) := by kernel_rfl
 have iS : (Tryd.prog.info? 102).map (fun i => (i.zero, i.size, i.bytes)) = some (some (.slice none 0 0), 1, 24) := by kernel_rfl
 have HB := am_ (Below.refl w.heap.size w)
 unfold spec_l2Alternatives.f at h
 by_cases c1 : (a0.size : Int) > 100
 ·rw [if_pos c1] at h
  have c1b0 : decide (100 < (a0.size : Int)) = true := decide_eq_true c1
  simp only [Option.some.injEq, Prod.mk.injEq] at h
  obtain ⟨rfl, rfl⟩ := h
  go_enter Tryd.func69, Tryd.ntmps69
  go_wp2
  go_ret2
  exact ⟨_, rf_, ni_, bl_⟩
 ·rw [if_neg c1] at h
  have c1b0 : decide (100 < (a0.size : Int)) = false := decide_eq_false c1
  have HZ := am_ (show a0.size ≤ 100 by omega)
  clear c1
  obtain ⟨t, ht, h⟩ := Option.bind_eq_some_iff.mp h
  have HT := am_ ht
  clear ht
  cases t with
  | false =>
   rw [if_neg (by decide)] at h
   simp only [Option.some.injEq, Prod.mk.injEq] at h
   obtain ⟨rfl, rfl⟩ := h
   go_enter Tryd.func69, Tryd.ntmps69
   go_wp2_with (first | (go_at_call 40; refine (spec_l2Printed.calls k a0 false _ HT.out).mono ?_; rintro e w' ⟨rfl, ⟨nd, rfl⟩⟩))
   go_ret2
   exact ⟨_, rf_, ni_, bl_⟩
  | true =>
   rw [if_pos rfl] at h
   have HR := am_ (Option.some.inj h)
   clear h
   go_enter Tryd.func69, Tryd.ntmps69
   go_wp2_with (first | (go_at_call 40; refine (spec_l2Printed.calls k a0 true _ HT.out).mono ?_; rintro e w' ⟨rfl, ⟨nd, rfl⟩⟩))
   go_loopg [4, 5, 6] a0.size (fun gg v4 v5 v6 w' => ∃ (o : List (List Int)) (nw : List Int) (i : Nat), v6 = .int .i64 (i : Int) ∧ Aside0 (o.length ≤ i ∧ nw.length ≤ i ∧ i ≤ a0.size ∧ a0.size ≤ 100 ∧ a0.size - i ≤ gg) ∧ Aside0 (altA a0 i o nw = (r1, r2)) ∧ Aside0 (Kd.S (Kd.slice 3 (Kd.int .i64)) 102 w' w.heap.size (fun k_ => some k_ ≠ (v5 : Value).ownBlock) v4 o) ∧ Aside0 (Kd.R (Kd.int .i64) 3 w' w.heap.size (fun _ => True) v5 nw) ∧ Aside0 (Below w.heap.size w w'))
   case atStart => exact ⟨[], [], 0, rs_, ⟨by have := HZ.out; simp; omega⟩, HR, ⟨ni_⟩, ⟨ni_⟩, ⟨bl_⟩⟩
   case round =>
    obtain ⟨o, nw, i, rfl, HL, HA, HO_4, HO_5, HB⟩ := hrel
    obtain ⟨I, hI⟩ : ∃ I : Int, (i : Int) = I := ⟨_, rfl⟩
    obtain ⟨Ao, co, e5⟩ := Kd.R_slice HO_5.out
    subst e5
    rw [hI]
    have HI := am_ hI
    by_cases c4 : I < (a0.size : Int)
    ·have c4b0 : decide (I < (a0.size : Int)) = true := decide_eq_true c4
     have hI0 : 0 ≤ I := by omega
     have hx6 := bt_at a0 I
     have p6 := eq_true hI0
     have q6 := eq_true c4
     have HIL := am_ c4
     have HI0 := am_ hI0
     clear c4 hI0 hI
     by_cases d124 : bt a0 I = 124
     ·have c124b0 : (bt a0 I == 124) = true := beq_iff_eq.mpr d124
      have HN := am_ d124
      clear d124
      go_wp2_with (first | ((with_reducible refine gate_builtin (b := .append) (xs := #[.tmp 33, .tmp 35]) rfl ?_); at_builtin; refine Kd.S_append (Kd.slice 3 (Kd.int .i64)) (w0 := w) w.heap.size rfl (.tmp 33) (.tmp 35) 88 102 (.slice none 0 0) 24 rfl Tryd.underlying88 iS rfl (by decide) (by omega) u4 o nw [.slice Ao nw.length co] (fun _ => True) (fun k_ => some k_ = (.slice Ao nw.length co : Value).ownBlock) rfl rfl ?aP (fun k_ hk => ⟨trivial, fun he => (Kd.S_R HO_4.out).1 k_ he.symm hk⟩) ?aF ?aO ?aB ?aS ?aL ?_; (case aP => exact Kd.M_row (Kd.R_tight rfl (show Kd.R (Kd.int .i64) 3 _ w.heap.size (fun _ => True) (.slice Ao nw.length co) nw from ro_ HO_5))); (case aB => exact bl_); (case aF => exact (fun _ _ => trivial)); (case aO => exact Kd.S_mono (show Kd.S (Kd.slice 3 (Kd.int .i64)) 102 _ w.heap.size _ u4 o from sq_ HO_4) (fun _ hk => ⟨trivial, hk⟩)); (case aS => exact (below_size bl_)); (case aL => have := HL.out; omega); intro v90 w90 ho hb hg hat; have n1_ := am_ hb; have n2_ := am_ ho; clear HO_4 HO_5 HB; have HO_4 := n2_; have HB := n1_; clear n1_ n2_ ho hb hg hat))
      go_roundg (a0.size - (i + 1))
      case measure => have h1_ := HI.out; have h2_ := HL.out; have h3_ := HIL.out; omega
      case rel => exact ⟨o ++ [nw], [], i + 1, (by first | rfl | (have h1_ := HI.out; have h2_ := HL.out; have h3_ := HIL.out; congr 1; unfold wrap64; omega)), ⟨by have h1_ := HI.out; have h2_ := HL.out; have h3_ := HIL.out; simp only [List.length_append, List.length_singleton, List.length_nil]; omega⟩, ⟨(altA_bar (by have h1_ := HI.out; have h3_ := HIL.out; omega) (by rw [HI.out]; exact HN.out)).symm.trans HA.out⟩, ⟨Kd.S_mono HO_4.out (fun k_ _ => by simp [Value.ownBlock])⟩, ⟨ni_⟩, ⟨bl_⟩⟩
     ·have c124b0 : (bt a0 I == 124) = false := beq_eq_false_iff_ne.mpr d124
      by_cases d42 : bt a0 I = 42
      ·have c42b0 : (bt a0 I == 42) = true := beq_iff_eq.mpr d42
       have HN := am_ d42
       clear d42
       go_wp2_with (first | ((with_reducible refine gate_builtin (b := .append) (xs := #[.tmp 39, .tmp 40]) rfl ?_); at_builtin; refine Kd.R_append (Kd.int .i64) (w0 := w) w.heap.size rfl (.tmp 39) (.tmp 40) 102 3 (.int .i64 0) 8 rfl Tryd.underlying102 i3 rfl (by decide) (by omega) (.slice Ao nw.length co) nw (-1) [.int .i64 (-1)] (fun _ => True) (fun _ => False) rfl rfl ?aP (fun _ hk => hk.elim) ?aF ?aO ?aB ?aS ?aL ?_; (case aP => exact rfl); (case aB => exact bl_); (case aF => exact (fun _ _ => trivial)); (case aO => exact (ro_ HO_5)); (case aS => exact (below_size bl_)); (case aL => have := HL.out; omega); intro v90 w90 ho hb hg hat; have n0_ := am_ (move_apart (show Kd.S (Kd.slice 3 (Kd.int .i64)) 102 _ w.heap.size _ u4 o from sq_ HO_4) hg hat); have n1_ := am_ hb; have n2_ := am_ ho; clear HO_4 HO_5 HB; have HO_4 := n0_; have HB := n1_; have HO_5 := n2_; clear n0_ n1_ n2_ ho hb hg hat))
       go_roundg (a0.size - (i + 1))
       case measure => have h1_ := HI.out; have h2_ := HL.out; have h3_ := HIL.out; omega
       case rel => exact ⟨o, nw ++ [-1], i + 1, (by first | rfl | (have h1_ := HI.out; have h2_ := HL.out; have h3_ := HIL.out; congr 1; unfold wrap64; omega)), ⟨by have h1_ := HI.out; have h2_ := HL.out; have h3_ := HIL.out; simp only [List.length_append, List.length_singleton, List.length_nil]; omega⟩, ⟨(altA_star (by have h1_ := HI.out; have h3_ := HIL.out; omega) (by rw [HI.out]; exact HN.out)).symm.trans HA.out⟩, ⟨sq_ HO_4⟩, ⟨ro_ HO_5⟩, ⟨bl_⟩⟩
      ·have c42b0 : (bt a0 I == 42) = false := beq_eq_false_iff_ne.mpr d42
       by_cases d63 : bt a0 I = 63
       ·have c63b0 : (bt a0 I == 63) = true := beq_iff_eq.mpr d63
        have HN := am_ d63
        clear d63
        go_wp2_with (first | ((with_reducible refine gate_builtin (b := .append) (xs := #[.tmp 44, .tmp 45]) rfl ?_); at_builtin; refine Kd.R_append (Kd.int .i64) (w0 := w) w.heap.size rfl (.tmp 44) (.tmp 45) 102 3 (.int .i64 0) 8 rfl Tryd.underlying102 i3 rfl (by decide) (by omega) (.slice Ao nw.length co) nw (-2) [.int .i64 (-2)] (fun _ => True) (fun _ => False) rfl rfl ?aP (fun _ hk => hk.elim) ?aF ?aO ?aB ?aS ?aL ?_; (case aP => exact rfl); (case aB => exact bl_); (case aF => exact (fun _ _ => trivial)); (case aO => exact (ro_ HO_5)); (case aS => exact (below_size bl_)); (case aL => have := HL.out; omega); intro v90 w90 ho hb hg hat; have n0_ := am_ (move_apart (show Kd.S (Kd.slice 3 (Kd.int .i64)) 102 _ w.heap.size _ u4 o from sq_ HO_4) hg hat); have n1_ := am_ hb; have n2_ := am_ ho; clear HO_4 HO_5 HB; have HO_4 := n0_; have HB := n1_; have HO_5 := n2_; clear n0_ n1_ n2_ ho hb hg hat))
        go_roundg (a0.size - (i + 1))
        case measure => have h1_ := HI.out; have h2_ := HL.out; have h3_ := HIL.out; omega
        case rel => exact ⟨o, nw ++ [-2], i + 1, (by first | rfl | (have h1_ := HI.out; have h2_ := HL.out; have h3_ := HIL.out; congr 1; unfold wrap64; omega)), ⟨by have h1_ := HI.out; have h2_ := HL.out; have h3_ := HIL.out; simp only [List.length_append, List.length_singleton, List.length_nil]; omega⟩, ⟨(altA_any (by have h1_ := HI.out; have h3_ := HIL.out; omega) (by rw [HI.out]; exact HN.out)).symm.trans HA.out⟩, ⟨sq_ HO_4⟩, ⟨ro_ HO_5⟩, ⟨bl_⟩⟩
       ·have c63b0 : (bt a0 I == 63) = false := beq_eq_false_iff_ne.mpr d63
        by_cases d92 : bt a0 I = 92
        ·have c92b0 : (bt a0 I == 92) = true := beq_iff_eq.mpr d92
         have H92 := am_ (show bt a0 (i : Int) = 92 by rw [HI.out]; exact d92)
         obtain ⟨J, hJ⟩ : ∃ J : Int, I + 1 = J := ⟨_, rfl⟩
         have hJw : IntKind.i64.wrap (I + 1) = J := by have h1_ := HI.out; have h2_ := HL.out; rw [IntKind.wrap_i64]; omega
         have hJv : wrap64 (I + 1) = J := by have h1_ := HI.out; have h2_ := HL.out; unfold wrap64; omega
         have HJ := am_ (show ((i + 1 : Nat) : Int) = J by have h1_ := HI.out; omega)
         clear d92 d124 d42 d63 hJ
         by_cases e1 : J = (a0.size : Int)
         ·have e1b0 : (J == (a0.size : Int)) = true := beq_iff_eq.mpr e1
          obtain ⟨rfl, rfl⟩ : r1 = [] ∧ r2 = false := by have h := (altA_cut (by have h1_ := HI.out; have h3_ := HIL.out; omega) H92.out (by have h1_ := HJ.out; omega)).symm.trans HA.out; simp only [Prod.mk.injEq] at h; exact ⟨h.1.symm, h.2.symm⟩
          clear e1
          go_wp2
          go_ret2
          exact ⟨_, rf_, ni_, bl_⟩
         ·have e1b0 : (J == (a0.size : Int)) = false := beq_eq_false_iff_ne.mpr e1
          have j1 : J < (a0.size : Int) := by have h1_ := HJ.out; have h2_ := HIL.out; have h3_ := HI.out; omega
          have j0 : 0 ≤ J := by have h1_ := HJ.out; omega
          have HE := am_ ((altA_esc (s := a0) (i := i) (by have h1_ := HJ.out; omega) H92.out).symm.trans HA.out)
          have HJL := am_ j1
          have hx7 := bt_at a0 J
          have p7 := eq_true j0
          have q7 := eq_true j1
          clear j0 j1 e1
          by_cases f42 : bt a0 J = 42
          ·have f42b0 : (bt a0 J != 42) = false := bne_eq_false_iff_eq.mpr f42
           have HF := am_ f42
           clear f42
           go_wp2_with (first | ((with_reducible refine gate_builtin (b := .append) (xs := #[.tmp 79, .tmp 84]) rfl ?_); at_builtin; refine Kd.R_append (Kd.int .i64) (w0 := w) w.heap.size rfl (.tmp 79) (.tmp 84) 102 3 (.int .i64 0) 8 rfl Tryd.underlying102 i3 rfl (by decide) (by omega) (.slice Ao nw.length co) nw (wrap64 (bt a0 J)) [.int .i64 (wrap64 (bt a0 J))] (fun _ => True) (fun _ => False) rfl rfl ?aP (fun _ hk => hk.elim) ?aF ?aO ?aB ?aS ?aL ?_; (case aP => exact rfl); (case aB => exact bl_); (case aF => exact (fun _ _ => trivial)); (case aO => exact (ro_ HO_5)); (case aS => exact (below_size bl_)); (case aL => have := HL.out; omega); intro v90 w90 ho hb hg hat; have n0_ := am_ (move_apart (show Kd.S (Kd.slice 3 (Kd.int .i64)) 102 _ w.heap.size _ u4 o from sq_ HO_4) hg hat); have n1_ := am_ hb; have n2_ := am_ ho; clear HO_4 HO_5 HB; have HO_4 := n0_; have HB := n1_; have HO_5 := n2_; clear n0_ n1_ n2_ ho hb hg hat))
           go_roundg (a0.size - (i + 2))
           case measure => have h1_ := HI.out; have h2_ := HL.out; have h3_ := HIL.out; omega
           case rel => exact ⟨o, nw ++ [wrap64 (bt a0 J)], i + 2, (by first | rfl | (have h1_ := HI.out; have h2_ := HL.out; have h3_ := HIL.out; have h4_ := HJ.out; have h5_ := HJL.out; congr 1; unfold wrap64; omega)), ⟨by have h1_ := HI.out; have h2_ := HL.out; have h3_ := HIL.out; have h4_ := HJ.out; have h5_ := HJL.out; simp only [List.length_append, List.length_singleton, List.length_nil]; omega⟩, ⟨by have h := HE.out; rw [HJ.out, if_pos (by unfold okE; rw [HF.out]; rfl)] at h; rw [wrap_bt]; exact h⟩, ⟨sq_ HO_4⟩, ⟨ro_ HO_5⟩, ⟨bl_⟩⟩
          ·have f42b0 : (bt a0 J != 42) = true := bne_iff_ne.mpr f42
           by_cases f63 : bt a0 J = 63
           ·have f63b0 : (bt a0 J != 63) = false := bne_eq_false_iff_eq.mpr f63
            have HF := am_ f63
            clear f63
            go_wp2_with (first | ((with_reducible refine gate_builtin (b := .append) (xs := #[.tmp 79, .tmp 84]) rfl ?_); at_builtin; refine Kd.R_append (Kd.int .i64) (w0 := w) w.heap.size rfl (.tmp 79) (.tmp 84) 102 3 (.int .i64 0) 8 rfl Tryd.underlying102 i3 rfl (by decide) (by omega) (.slice Ao nw.length co) nw (wrap64 (bt a0 J)) [.int .i64 (wrap64 (bt a0 J))] (fun _ => True) (fun _ => False) rfl rfl ?aP (fun _ hk => hk.elim) ?aF ?aO ?aB ?aS ?aL ?_; (case aP => exact rfl); (case aB => exact bl_); (case aF => exact (fun _ _ => trivial)); (case aO => exact (ro_ HO_5)); (case aS => exact (below_size bl_)); (case aL => have := HL.out; omega); intro v90 w90 ho hb hg hat; have n0_ := am_ (move_apart (show Kd.S (Kd.slice 3 (Kd.int .i64)) 102 _ w.heap.size _ u4 o from sq_ HO_4) hg hat); have n1_ := am_ hb; have n2_ := am_ ho; clear HO_4 HO_5 HB; have HO_4 := n0_; have HB := n1_; have HO_5 := n2_; clear n0_ n1_ n2_ ho hb hg hat))
            go_roundg (a0.size - (i + 2))
            case measure => have h1_ := HI.out; have h2_ := HL.out; have h3_ := HIL.out; omega
            case rel => exact ⟨o, nw ++ [wrap64 (bt a0 J)], i + 2, (by first | rfl | (have h1_ := HI.out; have h2_ := HL.out; have h3_ := HIL.out; have h4_ := HJ.out; have h5_ := HJL.out; congr 1; unfold wrap64; omega)), ⟨by have h1_ := HI.out; have h2_ := HL.out; have h3_ := HIL.out; have h4_ := HJ.out; have h5_ := HJL.out; simp only [List.length_append, List.length_singleton, List.length_nil]; omega⟩, ⟨by have h := HE.out; rw [HJ.out, if_pos (by unfold okE; rw [HF.out]; rfl)] at h; rw [wrap_bt]; exact h⟩, ⟨sq_ HO_4⟩, ⟨ro_ HO_5⟩, ⟨bl_⟩⟩
           ·have f63b0 : (bt a0 J != 63) = true := bne_iff_ne.mpr f63
            by_cases f124 : bt a0 J = 124
            ·have f124b0 : (bt a0 J != 124) = false := bne_eq_false_iff_eq.mpr f124
             have HF := am_ f124
             clear f124
             go_wp2_with (first | ((with_reducible refine gate_builtin (b := .append) (xs := #[.tmp 79, .tmp 84]) rfl ?_); at_builtin; refine Kd.R_append (Kd.int .i64) (w0 := w) w.heap.size rfl (.tmp 79) (.tmp 84) 102 3 (.int .i64 0) 8 rfl Tryd.underlying102 i3 rfl (by decide) (by omega) (.slice Ao nw.length co) nw (wrap64 (bt a0 J)) [.int .i64 (wrap64 (bt a0 J))] (fun _ => True) (fun _ => False) rfl rfl ?aP (fun _ hk => hk.elim) ?aF ?aO ?aB ?aS ?aL ?_; (case aP => exact rfl); (case aB => exact bl_); (case aF => exact (fun _ _ => trivial)); (case aO => exact (ro_ HO_5)); (case aS => exact (below_size bl_)); (case aL => have := HL.out; omega); intro v90 w90 ho hb hg hat; have n0_ := am_ (move_apart (show Kd.S (Kd.slice 3 (Kd.int .i64)) 102 _ w.heap.size _ u4 o from sq_ HO_4) hg hat); have n1_ := am_ hb; have n2_ := am_ ho; clear HO_4 HO_5 HB; have HO_4 := n0_; have HB := n1_; have HO_5 := n2_; clear n0_ n1_ n2_ ho hb hg hat))
             go_roundg (a0.size - (i + 2))
             case measure => have h1_ := HI.out; have h2_ := HL.out; have h3_ := HIL.out; omega
             case rel => exact ⟨o, nw ++ [wrap64 (bt a0 J)], i + 2, (by first | rfl | (have h1_ := HI.out; have h2_ := HL.out; have h3_ := HIL.out; have h4_ := HJ.out; have h5_ := HJL.out; congr 1; unfold wrap64; omega)), ⟨by have h1_ := HI.out; have h2_ := HL.out; have h3_ := HIL.out; have h4_ := HJ.out; have h5_ := HJL.out; simp only [List.length_append, List.length_singleton, List.length_nil]; omega⟩, ⟨by have h := HE.out; rw [HJ.out, if_pos (by unfold okE; rw [HF.out]; rfl)] at h; rw [wrap_bt]; exact h⟩, ⟨sq_ HO_4⟩, ⟨ro_ HO_5⟩, ⟨bl_⟩⟩
            ·have f124b0 : (bt a0 J != 124) = true := bne_iff_ne.mpr f124
             by_cases f92 : bt a0 J = 92
             ·have f92b0 : (bt a0 J != 92) = false := bne_eq_false_iff_eq.mpr f92
              have HF := am_ f92
              clear f92
              go_wp2_with (first | ((with_reducible refine gate_builtin (b := .append) (xs := #[.tmp 79, .tmp 84]) rfl ?_); at_builtin; refine Kd.R_append (Kd.int .i64) (w0 := w) w.heap.size rfl (.tmp 79) (.tmp 84) 102 3 (.int .i64 0) 8 rfl Tryd.underlying102 i3 rfl (by decide) (by omega) (.slice Ao nw.length co) nw (wrap64 (bt a0 J)) [.int .i64 (wrap64 (bt a0 J))] (fun _ => True) (fun _ => False) rfl rfl ?aP (fun _ hk => hk.elim) ?aF ?aO ?aB ?aS ?aL ?_; (case aP => exact rfl); (case aB => exact bl_); (case aF => exact (fun _ _ => trivial)); (case aO => exact (ro_ HO_5)); (case aS => exact (below_size bl_)); (case aL => have := HL.out; omega); intro v90 w90 ho hb hg hat; have n0_ := am_ (move_apart (show Kd.S (Kd.slice 3 (Kd.int .i64)) 102 _ w.heap.size _ u4 o from sq_ HO_4) hg hat); have n1_ := am_ hb; have n2_ := am_ ho; clear HO_4 HO_5 HB; have HO_4 := n0_; have HB := n1_; have HO_5 := n2_; clear n0_ n1_ n2_ ho hb hg hat))
              go_roundg (a0.size - (i + 2))
              case measure => have h1_ := HI.out; have h2_ := HL.out; have h3_ := HIL.out; omega
              case rel => exact ⟨o, nw ++ [wrap64 (bt a0 J)], i + 2, (by first | rfl | (have h1_ := HI.out; have h2_ := HL.out; have h3_ := HIL.out; have h4_ := HJ.out; have h5_ := HJL.out; congr 1; unfold wrap64; omega)), ⟨by have h1_ := HI.out; have h2_ := HL.out; have h3_ := HIL.out; have h4_ := HJ.out; have h5_ := HJL.out; simp only [List.length_append, List.length_singleton, List.length_nil]; omega⟩, ⟨by have h := HE.out; rw [HJ.out, if_pos (by unfold okE; rw [HF.out]; rfl)] at h; rw [wrap_bt]; exact h⟩, ⟨sq_ HO_4⟩, ⟨ro_ HO_5⟩, ⟨bl_⟩⟩
             ·have f92b0 : (bt a0 J != 92) = true := bne_iff_ne.mpr f92
              obtain ⟨rfl, rfl⟩ : r1 = [] ∧ r2 = false := by have h := HE.out; rw [HJ.out, if_neg (by unfold okE; rw [decide_eq_false f42, decide_eq_false f63, decide_eq_false f124, decide_eq_false f92]; decide)] at h; simp only [Prod.mk.injEq] at h; exact ⟨h.1.symm, h.2.symm⟩
              clear f42 f63 f124 f92
              go_wp2
              go_ret2
              exact ⟨_, rf_, ni_, bl_⟩
        ·have c92b0 : (bt a0 I == 92) = false := beq_eq_false_iff_ne.mpr d92
         have HN := am_ (And.intro d124 (And.intro d42 (And.intro d63 d92)))
         clear d92 d124 d42 d63
         go_wp2_with (first | ((with_reducible refine gate_builtin (b := .append) (xs := #[.tmp 24, .tmp 29]) rfl ?_); at_builtin; refine Kd.R_append (Kd.int .i64) (w0 := w) w.heap.size rfl (.tmp 24) (.tmp 29) 102 3 (.int .i64 0) 8 rfl Tryd.underlying102 i3 rfl (by decide) (by omega) (.slice Ao nw.length co) nw (wrap64 (bt a0 I)) [.int .i64 (wrap64 (bt a0 I))] (fun _ => True) (fun _ => False) rfl rfl ?aP (fun _ hk => hk.elim) ?aF ?aO ?aB ?aS ?aL ?_; (case aP => exact rfl); (case aB => exact bl_); (case aF => exact (fun _ _ => trivial)); (case aO => exact (ro_ HO_5)); (case aS => exact (below_size bl_)); (case aL => have := HL.out; omega); intro v90 w90 ho hb hg hat; have n0_ := am_ (move_apart (show Kd.S (Kd.slice 3 (Kd.int .i64)) 102 _ w.heap.size _ u4 o from sq_ HO_4) hg hat); have n1_ := am_ hb; have n2_ := am_ ho; clear HO_4 HO_5 HB; have HO_4 := n0_; have HB := n1_; have HO_5 := n2_; clear n0_ n1_ n2_ ho hb hg hat))
         go_roundg (a0.size - (i + 1))
         case measure => have h1_ := HI.out; have h2_ := HL.out; have h3_ := HIL.out; omega
         case rel => exact ⟨o, nw ++ [wrap64 (bt a0 I)], i + 1, (by first | rfl | (have h1_ := HI.out; have h2_ := HL.out; have h3_ := HIL.out; congr 1; unfold wrap64; omega)), ⟨by have h1_ := HI.out; have h2_ := HL.out; have h3_ := HIL.out; simp only [List.length_append, List.length_singleton, List.length_nil]; omega⟩, ⟨by rw [wrap_bt, ← HI.out]; exact (altA_on (by have h1_ := HI.out; have h3_ := HIL.out; omega) (by rw [HI.out]; exact HN.out.1) (by rw [HI.out]; exact HN.out.2.1) (by rw [HI.out]; exact HN.out.2.2.1) (by rw [HI.out]; exact HN.out.2.2.2)).symm.trans HA.out⟩, ⟨sq_ HO_4⟩, ⟨ro_ HO_5⟩, ⟨bl_⟩⟩
    ·have c4b0 : decide (I < (a0.size : Int)) = false := decide_eq_false c4
     obtain ⟨rfl, rfl⟩ : r1 = o ++ [nw] ∧ r2 = true := by have h := (altA_end (o := o) (nw := nw) (show ¬ i < a0.size by omega)).symm.trans HA.out; simp only [Prod.mk.injEq] at h; exact ⟨h.1.symm, h.2.symm⟩
     clear c4 hI
     go_wp2_with (first | ((with_reducible refine gate_builtin (b := .append) (xs := #[.tmp 86, .tmp 88]) rfl ?_); at_builtin; refine Kd.S_append (Kd.slice 3 (Kd.int .i64)) (w0 := w) w.heap.size rfl (.tmp 86) (.tmp 88) 88 102 (.slice none 0 0) 24 rfl Tryd.underlying88 iS rfl (by decide) (by omega) u4 o nw [.slice Ao nw.length co] (fun _ => True) (fun k_ => some k_ = (.slice Ao nw.length co : Value).ownBlock) rfl rfl ?aP (fun k_ hk => ⟨trivial, fun he => (Kd.S_R HO_4.out).1 k_ he.symm hk⟩) ?aF ?aO ?aB ?aS ?aL ?_; (case aP => exact Kd.M_row (Kd.R_tight rfl (show Kd.R (Kd.int .i64) 3 _ w.heap.size (fun _ => True) (.slice Ao nw.length co) nw from ro_ HO_5))); (case aB => exact bl_); (case aF => exact (fun _ _ => trivial)); (case aO => exact Kd.S_mono (show Kd.S (Kd.slice 3 (Kd.int .i64)) 102 _ w.heap.size _ u4 o from sq_ HO_4) (fun _ hk => ⟨trivial, hk⟩)); (case aS => exact (below_size bl_)); (case aL => have := HL.out; omega); intro v90 w90 ho hb hg hat; have n1_ := am_ hb; have n2_ := am_ ho; clear HO_4 HO_5 HB; have HO_4 := n2_; have HB := n1_; clear n1_ n2_ ho hb hg hat))
     go_ret2
     exact ⟨_, rf_, HO_4.out, bl_⟩

/-! ### spec_GoodPattern: function 41 -/
def spec_GoodPattern.f (k : Nat) (a0 : ByteArray) : Option (Bool) := (spec_l2Alternatives.f k a0).bind fun bt1001 => (some bt1001.2)
theorem spec_GoodPattern.mono : ∀ a0 k, LeO (spec_GoodPattern.f k a0) (spec_GoodPattern.f (k + 1) a0) := by
 intro a0 k
 unfold spec_GoodPattern.f
 repeat' first
   | with_reducible first | exact spec_l2Alternatives.mono _ _ | exact LeO.refl _ | exact LeO.none _ | refine LeO.ite ?_ ?_ | refine LeO.bind ?_ (fun _ => ?_)
   | exact spec_l2Alternatives.mono _ _
   | exact LeO.none _
   | refine LeO.ite ?_ ?_
   | refine LeO.bind ?_ (fun _ => ?_)
set_option maxHeartbeats 8000000 in
set_option maxRecDepth 100000 in
theorem spec_GoodPattern.calls (k : Nat) (a0 : ByteArray) (r : Bool) (w : World) (h : spec_GoodPattern.f k a0 = some r) :
  Calls Tryd.prog 41 #[.string a0] w fun e w' => e = .returned (.bool r) ∧ Below w.heap.size w w' := by
 have HB := am_ (Below.refl w.heap.size w)
 have H : ((spec_l2Alternatives.f k a0).bind fun bt1001 => (some bt1001.2)) = some r := h
 clear h
 replace H := Option.bind_eq_some_iff.mp H
 obtain ⟨⟨t1001, t1002⟩, A20, H⟩ := H
 replace H : (some t1002) = some r := H
 have A2 := am_ A20
 clear A20
 obtain rfl := Option.some.inj H
 go_enter Tryd.func41, Tryd.ntmps41
 go_wp2_with (first | ((with_reducible refine gate_callee (f := 69) rfl ?_); refine goesL_ (some 7) rfl rfl Tryd.func69 (by kernel_rfl) rfl #[.string a0] rfl ag_ ?_; (with_reducible refine (spec_l2Alternatives.calls k a0 t1001 t1002 _ A2.out).mono ?_); rintro e w3 ⟨v1003, rfl, ho0, hb⟩; refine ⟨_, rfl, ?_⟩; have HO1004 := am_ (Kd.S_lower ho0 (below_size bl_)); replace HB := am_ (below_step bl_ hb); (try clear hb); (try clear hb2); (try clear hk); (try clear hi); (try clear ho0)))
 go_ret
 exact ⟨rf_, bl_⟩

/-! ### impl_digitByte: function 78 -/
def impl_digitByte.f (a0 : Int) : Option (Bool) := if a0 ≥ 48 then (some (decide (a0 ≤ 57))) else (some false)
set_option maxHeartbeats 8000000 in
set_option maxRecDepth 100000 in
theorem impl_digitByte.calls (a0 : Int) (r : Bool) (w : World) (h : impl_digitByte.f a0 = some r) :
  Calls Tryd.prog 78 #[.int .u8 a0] w fun e w' => e = .returned (.bool r) ∧ Drawn0 w w' := by
 have H : (if a0 ≥ 48 then (some (decide (a0 ≤ 57))) else (some false)) = some r := h
 clear h
 by_cases c2 : a0 ≥ 48
 ·rw [if_pos c2] at H
  have c2b0 : decide (48 ≤ a0) = true := decide_eq_true c2
  clear c2
  obtain rfl := Option.some.inj H
  go_enter Tryd.func78, Tryd.ntmps78
  go_wp2
  go_ret
  exact ⟨by first | rfl | (simp; done) | (simp [*]; done), by repeat (first | exact Drawn0.refl _ | apply Drawn0.step)⟩
 ·rw [if_neg c2] at H
  have c2b0 : decide (48 ≤ a0) = false := decide_eq_false c2
  clear c2
  obtain rfl := Option.some.inj H
  go_enter Tryd.func78, Tryd.ntmps78
  go_wp2
  go_ret
  exact ⟨by first | rfl | (simp; done) | (simp [*]; done), by repeat (first | exact Drawn0.refl _ | apply Drawn0.step)⟩

/-! ### impl_letterByte: function 85 -/
def impl_letterByte.f (a0 : Int) : Option (Bool) := if a0 ≥ 97 then (if a0 ≤ 122 then (some true) else (if a0 ≥ 65 then (some (decide (a0 ≤ 90))) else (some false))) else (if a0 ≥ 65 then (some (decide (a0 ≤ 90))) else (some false))
set_option maxHeartbeats 8000000 in
set_option maxRecDepth 100000 in
theorem impl_letterByte.calls (a0 : Int) (r : Bool) (w : World) (h : impl_letterByte.f a0 = some r) :
  Calls Tryd.prog 85 #[.int .u8 a0] w fun e w' => e = .returned (.bool r) ∧ Drawn0 w w' := by
 have H : (if a0 ≥ 97 then (if a0 ≤ 122 then (some true) else (if a0 ≥ 65 then (some (decide (a0 ≤ 90))) else (some false))) else (if a0 ≥ 65 then (some (decide (a0 ≤ 90))) else (some false))) = some r := h
 clear h
 by_cases c2 : a0 ≥ 97
 ·rw [if_pos c2] at H
  have c2b0 : decide (97 ≤ a0) = true := decide_eq_true c2
  clear c2
  by_cases c3 : a0 ≤ 122
  ·rw [if_pos c3] at H
   have c3b0 : decide (a0 ≤ 122) = true := decide_eq_true c3
   clear c3
   obtain rfl := Option.some.inj H
   go_enter Tryd.func85, Tryd.ntmps85
   go_wp2
   go_ret
   exact ⟨by first | rfl | (simp; done) | (simp [*]; done), by repeat (first | exact Drawn0.refl _ | apply Drawn0.step)⟩
  ·rw [if_neg c3] at H
   have c3b0 : decide (a0 ≤ 122) = false := decide_eq_false c3
   clear c3
   by_cases c4 : a0 ≥ 65
   ·rw [if_pos c4] at H
    have c4b0 : decide (65 ≤ a0) = true := decide_eq_true c4
    clear c4
    obtain rfl := Option.some.inj H
    go_enter Tryd.func85, Tryd.ntmps85
    go_wp2
    go_ret
    exact ⟨by first | rfl | (simp; done) | (simp [*]; done), by repeat (first | exact Drawn0.refl _ | apply Drawn0.step)⟩
   ·rw [if_neg c4] at H
    have c4b0 : decide (65 ≤ a0) = false := decide_eq_false c4
    clear c4
    obtain rfl := Option.some.inj H
    go_enter Tryd.func85, Tryd.ntmps85
    go_wp2
    go_ret
    exact ⟨by first | rfl | (simp; done) | (simp [*]; done), by repeat (first | exact Drawn0.refl _ | apply Drawn0.step)⟩
 ·rw [if_neg c2] at H
  have c2b0 : decide (97 ≤ a0) = false := decide_eq_false c2
  clear c2
  by_cases c5 : a0 ≥ 65
  ·rw [if_pos c5] at H
   have c5b0 : decide (65 ≤ a0) = true := decide_eq_true c5
   clear c5
   obtain rfl := Option.some.inj H
   go_enter Tryd.func85, Tryd.ntmps85
   go_wp2
   go_ret
   exact ⟨by first | rfl | (simp; done) | (simp [*]; done), by repeat (first | exact Drawn0.refl _ | apply Drawn0.step)⟩
  ·rw [if_neg c5] at H
   have c5b0 : decide (65 ≤ a0) = false := decide_eq_false c5
   clear c5
   obtain rfl := Option.some.inj H
   go_enter Tryd.func85, Tryd.ntmps85
   go_wp2
   go_ret
   exact ⟨by first | rfl | (simp; done) | (simp [*]; done), by repeat (first | exact Drawn0.refl _ | apply Drawn0.step)⟩

/-! ### impl_wordByte: function 79 -/
def impl_wordByte.f (a0 : Int) : Option (Bool) := (impl_letterByte.f a0).bind fun t1001 => (if t1001 = true then (some true) else ((impl_digitByte.f a0).bind fun t1002 => (if t1002 = true then (some true) else (some (a0 == 95)))))
set_option maxHeartbeats 8000000 in
set_option maxRecDepth 100000 in
theorem impl_wordByte.calls (a0 : Int) (r : Bool) (w : World) (h : impl_wordByte.f a0 = some r) :
  Calls Tryd.prog 79 #[.int .u8 a0] w fun e w' => e = .returned (.bool r) ∧ Drawn0 w w' := by
 have H : ((impl_letterByte.f a0).bind fun t1001 => (if t1001 = true then (some true) else ((impl_digitByte.f a0).bind fun t1002 => (if t1002 = true then (some true) else (some (a0 == 95)))))) = some r := h
 clear h
 replace H := Option.bind_eq_some_iff.mp H
 obtain ⟨t1001, A20, H⟩ := H
 replace H : (if t1001 = true then (some true) else ((impl_digitByte.f a0).bind fun t1002 => (if t1002 = true then (some true) else (some (a0 == 95))))) = some r := H
 have A2 := am_ A20
 clear A20
 by_cases c3 : t1001 = true
 ·subst c3
  have H1 : (some true) = some r := by rw [if_pos rfl] at H; exact H
  clear H
  have H := H1
  clear H1
  obtain rfl := Option.some.inj H
  go_enter Tryd.func79, Tryd.ntmps79
  go_wp2_with (first | ((with_reducible refine gate_callee (f := 85) rfl ?_); refine goesL_ (some 4) rfl rfl Tryd.func85 (by kernel_rfl) rfl #[.int .u8 a0] rfl ag_ ?_; (with_reducible refine (impl_letterByte.calls a0 true _ A2.out).mono ?_); rintro e w' ⟨rfl, ⟨nd, rfl⟩⟩; refine ⟨_, rfl, ?_⟩))
  go_ret
  exact ⟨by first | rfl | (simp; done) | (simp [*]; done), by repeat (first | exact Drawn0.refl _ | apply Drawn0.step)⟩
 ·replace c3 := Bool.eq_false_iff.mpr c3
  subst c3
  have H1 : ((impl_digitByte.f a0).bind fun t1002 => (if t1002 = true then (some true) else (some (a0 == 95)))) = some r := by rw [if_neg (show ¬ (false = true) by decide)] at H; exact H
  clear H
  have H := H1
  clear H1
  replace H := Option.bind_eq_some_iff.mp H
  obtain ⟨t1002, A40, H⟩ := H
  replace H : (if t1002 = true then (some true) else (some (a0 == 95))) = some r := H
  have A4 := am_ A40
  clear A40
  by_cases c5 : t1002 = true
  ·subst c5
   have H1 : (some true) = some r := by rw [if_pos rfl] at H; exact H
   clear H
   have H := H1
   clear H1
   obtain rfl := Option.some.inj H
   go_enter Tryd.func79, Tryd.ntmps79
   go_wp2_with (first | ((with_reducible refine gate_callee (f := 85) rfl ?_); refine goesL_ (some 4) rfl rfl Tryd.func85 (by kernel_rfl) rfl #[.int .u8 a0] rfl ag_ ?_; (with_reducible refine (impl_letterByte.calls a0 false _ A2.out).mono ?_); rintro e w' ⟨rfl, ⟨nd, rfl⟩⟩; refine ⟨_, rfl, ?_⟩) | (go_at_call 78; (with_reducible refine (impl_digitByte.calls a0 true _ A4.out).mono ?_); rintro e w' ⟨rfl, ⟨nd, rfl⟩⟩))
   go_ret
   exact ⟨by first | rfl | (simp; done) | (simp [*]; done), by repeat (first | exact Drawn0.refl _ | apply Drawn0.step)⟩
  ·replace c5 := Bool.eq_false_iff.mpr c5
   subst c5
   have H1 : (some (a0 == 95)) = some r := by rw [if_neg (show ¬ (false = true) by decide)] at H; exact H
   clear H
   have H := H1
   clear H1
   obtain rfl := Option.some.inj H
   go_enter Tryd.func79, Tryd.ntmps79
   go_wp2_with (first | ((with_reducible refine gate_callee (f := 85) rfl ?_); refine goesL_ (some 4) rfl rfl Tryd.func85 (by kernel_rfl) rfl #[.int .u8 a0] rfl ag_ ?_; (with_reducible refine (impl_letterByte.calls a0 false _ A2.out).mono ?_); rintro e w' ⟨rfl, ⟨nd, rfl⟩⟩; refine ⟨_, rfl, ?_⟩) | (go_at_call 78; (with_reducible refine (impl_digitByte.calls a0 false _ A4.out).mono ?_); rintro e w' ⟨rfl, ⟨nd, rfl⟩⟩))
   go_ret
   exact ⟨by first | rfl | (simp; done) | (simp [*]; done), by repeat (first | exact Drawn0.refl _ | apply Drawn0.step)⟩

/-! ### impl_isName: function 61 -/
mutual
def impl_isName.j0 : Nat → ByteArray → Bool → Option (Bool)
 | 0, _, _ => none
 | k + 1, x0, x15 => if x15 = true then (some false) else (impl_isName.l0 k x0 (x0.size : Int) 0)
def impl_isName.l0 : Nat → ByteArray → Int → Int → Option (Bool)
 | 0, _, _, _ => none
 | k + 1, x0, x17, x18 => if x18 < x17 then (if 0 ≤ x18 then (if x18 < (x0.size : Int) then ((impl_wordByte.f (bt x0 x18)).bind fun t1002 => (if t1002 = true then (impl_isName.l0 k x0 x17 (wrap64 (x18 + 1))) else (some false))) else (none)) else (none)) else (some true)
end
def impl_isName.f (k : Nat) (a0 : ByteArray) : Option (Bool) := if a0.toList = ([] : List UInt8) then (impl_isName.j0 k a0 true) else (if (a0.size : Int) > 40 then (impl_isName.j0 k a0 true) else (if 0 < (a0.size : Int) then ((impl_digitByte.f (bt a0 0)).bind fun t1001 => (impl_isName.j0 k a0 t1001)) else (none)))
theorem impl_isName.mono_l : ∀ k, (∀ y0 y1, LeO (impl_isName.j0 k y0 y1) (impl_isName.j0 (k + 1) y0 y1)) ∧ (∀ y0 y1 y2, LeO (impl_isName.l0 k y0 y1 y2) (impl_isName.l0 (k + 1) y0 y1 y2))
 | 0 => ⟨fun _ _ r h => by simp [impl_isName.j0] at h, fun _ _ _ r h => by simp [impl_isName.l0] at h⟩
 | k + 1 => by
  obtain ⟨ih0, ih1⟩ := impl_isName.mono_l k
  refine ⟨?_, ?_⟩
  ·intro y0 y1
   unfold impl_isName.j0
   repeat' first
   | with_reducible first | exact ih0 _ _ | exact ih1 _ _ _ | exact LeO.refl _ | exact LeO.none _ | refine LeO.ite ?_ ?_ | refine LeO.bind ?_ (fun _ => ?_)
   | exact ih0 _ _
   | exact ih1 _ _ _
   | exact LeO.none _
   | refine LeO.ite ?_ ?_
   | refine LeO.bind ?_ (fun _ => ?_)
  ·intro y0 y1 y2
   unfold impl_isName.l0
   repeat' first
   | with_reducible first | exact ih0 _ _ | exact ih1 _ _ _ | exact LeO.refl _ | exact LeO.none _ | refine LeO.ite ?_ ?_ | refine LeO.bind ?_ (fun _ => ?_)
   | exact ih0 _ _
   | exact ih1 _ _ _
   | exact LeO.none _
   | refine LeO.ite ?_ ?_
   | refine LeO.bind ?_ (fun _ => ?_)
theorem impl_isName.mono : ∀ a0 k, LeO (impl_isName.f k a0) (impl_isName.f (k + 1) a0) := by
 intro a0 k
 obtain ⟨ih0, ih1⟩ := impl_isName.mono_l k
 unfold impl_isName.f
 repeat' first
   | with_reducible first | exact ih0 _ _ | exact ih1 _ _ _ | exact LeO.refl _ | exact LeO.none _ | refine LeO.ite ?_ ?_ | refine LeO.bind ?_ (fun _ => ?_)
   | exact ih0 _ _
   | exact ih1 _ _ _
   | exact LeO.none _
   | refine LeO.ite ?_ ?_
   | refine LeO.bind ?_ (fun _ => ?_)
set_option maxHeartbeats 8000000 in
set_option maxRecDepth 100000 in
theorem impl_isName.calls (k : Nat) (a0 : ByteArray) (r : Bool) (w : World) (h : impl_isName.f k a0 = some r) :
  Calls Tryd.prog 61 #[.string a0] w fun e w' => e = .returned (.bool r) ∧ Drawn0 w w' := by
 have H : (if a0.toList = ([] : List UInt8) then (impl_isName.j0 k a0 true) else (if (a0.size : Int) > 40 then (impl_isName.j0 k a0 true) else (if 0 < (a0.size : Int) then ((impl_digitByte.f (bt a0 0)).bind fun t1001 => (impl_isName.j0 k a0 t1001)) else (none)))) = some r := h
 clear h
 have HC2 := am_ H
 clear H
 go_enter Tryd.func61, Tryd.ntmps61
 go_upto_region 1 with (fail)
 go_cut [15] (fun v15 wc => ∃ (kq : Nat) (x15_1 : Bool), v15 = .bool x15_1 ∧ Aside0 (impl_isName.j0 kq a0 x15_1 = some r) ∧ Aside0 (kq ≤ k) ∧ Drawn0 w wc)
 case first =>
  have H := HC2.out
  clear HC2
  by_cases c3 : a0.toList = ([] : List UInt8)
  ·rw [if_pos c3] at H
   have c3b0 : (a0.toList == ([] : List UInt8)) = true := beq_iff_eq.mpr c3
   have c3b1 : (a0.toList != ([] : List UInt8)) = false := bne_eq_false_iff_eq.mpr c3
   clear c3
   (first | rw [c3b0] | (simp only [i64_w, i32_w]; rw [c3b0]) | skip)
   have H' := am_ H
   clear H
   go_wp2
   go_meet
   case rel => exact ⟨_, (true), rs_, H', ⟨by first | omega | exact Nat.le_refl _⟩, by repeat (first | exact Drawn0.refl _ | apply Drawn0.step)⟩
  ·rw [if_neg c3] at H
   have c3b0 : (a0.toList == ([] : List UInt8)) = false := beq_eq_false_iff_ne.mpr c3
   have c3b1 : (a0.toList != ([] : List UInt8)) = true := bne_iff_ne.mpr c3
   (first | rw [c3b0] | (simp only [i64_w, i32_w]; rw [c3b0]) | skip)
   by_cases c4 : (a0.size : Int) > 40
   ·rw [if_pos c4] at H
    have c4b0 : decide (40 < (a0.size : Int)) = true := decide_eq_true c4
    have c4b1 : decide (40 < a0.size) = true := decide_eq_true (by omega)
    clear c4
    have H' := am_ H
    clear H
    go_wp2
    go_meet
    case rel => exact ⟨_, (true), rs_, H', ⟨by first | omega | exact Nat.le_refl _⟩, by repeat (first | exact Drawn0.refl _ | apply Drawn0.step)⟩
   ·rw [if_neg c4] at H
    have c4b0 : decide (40 < (a0.size : Int)) = false := decide_eq_false c4
    have c4b1 : decide (40 < a0.size) = false := decide_eq_false (by omega)
    clear c4
    by_cases c5 : 0 < (a0.size : Int)
    ·rw [if_pos c5] at H
     have c5b0 : decide (0 < (a0.size : Int)) = true := decide_eq_true c5
     have c5b1 : decide (0 < a0.size) = true := decide_eq_true (by omega)
     clear c5
     replace H := Option.bind_eq_some_iff.mp H
     obtain ⟨t1001, A70, H⟩ := H
     replace H : (impl_isName.j0 k a0 t1001) = some r := H
     have A7 := am_ A70
     clear A70
     have H' := am_ H
     clear H
     have p6 : 0 ≤ (0 : Int) := (by omega)
     have q6 : 0 < a0.size := (by have : (0 : Int) < (a0.size : Int) := od_; omega)
     have hx6 : ∀ h : 0 < a0.size, ((a0[0]'h).toNat : Int) = bt a0 0 := bt_at a0 0
     clear p6
     have qi6 : (0 < (a0.size : Int)) = True := eq_true (od_)
     replace q6 := eq_true q6
     go_wp2_with (first | (go_at_call 78; (with_reducible refine (impl_digitByte.calls (bt a0 0) t1001 _ A7.out).mono ?_); rintro e w' ⟨rfl, ⟨nd, rfl⟩⟩))
     go_meet
     case rel => exact ⟨_, (t1001), rs_, H', ⟨by first | omega | exact Nat.le_refl _⟩, by repeat (first | exact Drawn0.refl _ | apply Drawn0.step)⟩
    ·rw [if_neg c5] at H
     exact absurd H (by simp)
 case rest =>
  clear HC2
  try clear p2
  try clear c3
  try clear c3b0
  try clear c3b1
  try clear c4
  try clear c4b0
  try clear c4b1
  try clear c5
  try clear c5b0
  try clear c5b1
  try clear c6
  try clear p6
  try clear q6
  try clear hx6
  try clear qi6
  try clear p6
  try clear q6
  obtain ⟨kq, x15_1, rfl, HA, HJ1, ⟨mc1, rfl⟩⟩ := hcut
  cases kq with
  | zero => exact absurd HA.out (by simp [impl_isName.j0])
  | succ kj1 =>
   have H := HA.out
   clear HA
   simp only [impl_isName.j0] at H
   by_cases c8 : x15_1 = true
   ·subst c8
    have H1 : (some false) = some r := by rw [if_pos rfl] at H; exact H
    clear H
    have H := H1
    clear H1
    obtain rfl := Option.some.inj H
    go_wp2
    go_ret
    exact ⟨by first | rfl | (simp; done) | (simp [*]; done), by repeat (first | exact Drawn0.refl _ | apply Drawn0.step)⟩
   ·replace c8 := Bool.eq_false_iff.mpr c8
    subst c8
    have H1 : (impl_isName.l0 kj1 a0 (a0.size : Int) 0) = some r := by rw [if_neg (show ¬ (false = true) by decide)] at H; exact H
    clear H
    have H := H1
    clear H1
    have H' := am_ H
    clear H
    go_wp2
    go_loopg [18] kj1 (fun kq v18 w' => ∃ (x18_2 : Int), v18 = .int .i64 x18_2 ∧ Aside0 (impl_isName.l0 kq a0 (a0.size : Int) x18_2 = some r) ∧ Aside0 (kq ≤ kj1) ∧ Drawn0 w w')
    case atStart => exact ⟨(0), rs_, H', ⟨Nat.le_refl _⟩, by repeat (first | exact Drawn0.refl _ | apply Drawn0.step)⟩
    case round =>
     clear H'
     try clear c1
     try clear p2
     try clear c3
     try clear c3b0
     try clear c3b1
     try clear c4
     try clear c4b0
     try clear c4b1
     try clear c5
     try clear c5b0
     try clear c5b1
     try clear c6
     try clear p6
     try clear q6
     try clear hx6
     try clear qi6
     try clear c8
     try clear p2
     try clear p6
     try clear q6
     obtain ⟨x18_2, rfl, HA, HK2, ⟨m2, rfl⟩⟩ := hrel
     cases gk with
     | zero => exact absurd HA.out (by simp [impl_isName.l0])
     | succ k2 =>
      have H := HA.out
      clear HA
      simp only [impl_isName.l0] at H
      by_cases c9 : x18_2 < (a0.size : Int)
      ·rw [if_pos c9] at H
       have c9b0 : decide (x18_2 < (a0.size : Int)) = true := decide_eq_true c9
       clear c9
       by_cases c10 : 0 ≤ x18_2
       ·rw [if_pos c10] at H
        have c10b0 : decide (0 ≤ x18_2) = true := decide_eq_true c10
        clear c10
        by_cases c11 : x18_2 < (a0.size : Int)
        ·rw [if_pos c11] at H
         have c11b0 : decide (x18_2 < (a0.size : Int)) = true := decide_eq_true c11
         clear c11
         replace H := Option.bind_eq_some_iff.mp H
         obtain ⟨t1002, A130, H⟩ := H
         replace H : (if t1002 = true then (impl_isName.l0 k2 a0 (a0.size : Int) (wrap64 (x18_2 + 1))) else (some false)) = some r := H
         have A13 := am_ A130
         clear A130
         by_cases c14 : t1002 = true
         ·subst c14
          have H1 : (impl_isName.l0 k2 a0 (a0.size : Int) (wrap64 (x18_2 + 1))) = some r := by rw [if_pos rfl] at H; exact H
          clear H
          have H := H1
          clear H1
          have H' := am_ H
          clear H
          have p12 : 0 ≤ (x18_2 : Int) := od_
          have q12 : x18_2 < (a0.size : Int) := od_
          have hx12 := bt_at a0 x18_2
          replace p12 := eq_true p12
          replace q12 := eq_true q12
          go_wp2_with (first | ((with_reducible refine gate_callee (f := 79) rfl ?_); refine goesL_ (some 24) rfl rfl Tryd.func79 (by kernel_rfl) rfl #[.int .u8 (bt a0 x18_2)] rfl ag_ ?_; (with_reducible refine (impl_wordByte.calls (bt a0 x18_2) true _ A13.out).mono ?_); rintro e w' ⟨rfl, ⟨nd, rfl⟩⟩; refine ⟨_, rfl, ?_⟩))
          go_roundg k2
          case measure => have := HJ1.out; have := HK2.out; omega
          case rel => exact ⟨(wrap64 (x18_2 + 1)), rs_, H', ⟨by have := HJ1.out; have := HK2.out; omega⟩, by repeat (first | exact Drawn0.refl _ | apply Drawn0.step)⟩
         ·replace c14 := Bool.eq_false_iff.mpr c14
          subst c14
          have H1 : (some false) = some r := by rw [if_neg (show ¬ (false = true) by decide)] at H; exact H
          clear H
          have H := H1
          clear H1
          obtain rfl := Option.some.inj H
          have p12 : 0 ≤ (x18_2 : Int) := od_
          have q12 : x18_2 < (a0.size : Int) := od_
          have hx12 := bt_at a0 x18_2
          replace p12 := eq_true p12
          replace q12 := eq_true q12
          go_wp2_with (first | ((with_reducible refine gate_callee (f := 79) rfl ?_); refine goesL_ (some 24) rfl rfl Tryd.func79 (by kernel_rfl) rfl #[.int .u8 (bt a0 x18_2)] rfl ag_ ?_; (with_reducible refine (impl_wordByte.calls (bt a0 x18_2) false _ A13.out).mono ?_); rintro e w' ⟨rfl, ⟨nd, rfl⟩⟩; refine ⟨_, rfl, ?_⟩))
          go_ret
          exact ⟨by first | rfl | (simp; done) | (simp [*]; done), by repeat (first | exact Drawn0.refl _ | apply Drawn0.step)⟩
        ·rw [if_neg c11] at H
         exact absurd H (by simp)
       ·rw [if_neg c10] at H
        exact absurd H (by simp)
      ·rw [if_neg c9] at H
       have c9b0 : decide (x18_2 < (a0.size : Int)) = false := decide_eq_false c9
       clear c9
       obtain rfl := Option.some.inj H
       go_wp2
       go_ret
       exact ⟨by first | rfl | (simp; done) | (simp [*]; done), by repeat (first | exact Drawn0.refl _ | apply Drawn0.step)⟩

/-! ### impl_printed: function 62 -/
def impl_printed.l0 : Nat → ByteArray → Int → Int → Option (Bool)
 | 0, _, _, _ => none
 | k + 1, x0, x11, x12 => if x12 < x11 then (if 0 ≤ x12 then (if x12 < (x0.size : Int) then (if (bt x0 x12) < 32 then (some false) else (if (bt x0 x12) > 126 then (some false) else (impl_printed.l0 k x0 x11 (wrap64 (x12 + 1))))) else (none)) else (none)) else (some true)
def impl_printed.f (k : Nat) (a0 : ByteArray) (a1 : Int) : Option (Bool) := if (a0.size : Int) > a1 then (some false) else (impl_printed.l0 k a0 (a0.size : Int) 0)
theorem impl_printed.mono_l : ∀ k, (∀ y0 y1 y2, LeO (impl_printed.l0 k y0 y1 y2) (impl_printed.l0 (k + 1) y0 y1 y2))
 | 0 => fun _ _ _ r h => by simp [impl_printed.l0] at h
 | k + 1 => by
  have ih0 := impl_printed.mono_l k
  ·intro y0 y1 y2
   unfold impl_printed.l0
   repeat' first
   | with_reducible first | exact ih0 _ _ _ | exact LeO.refl _ | exact LeO.none _ | refine LeO.ite ?_ ?_ | refine LeO.bind ?_ (fun _ => ?_)
   | exact ih0 _ _ _
   | exact LeO.none _
   | refine LeO.ite ?_ ?_
   | refine LeO.bind ?_ (fun _ => ?_)
theorem impl_printed.mono : ∀ a0 a1 k, LeO (impl_printed.f k a0 a1) (impl_printed.f (k + 1) a0 a1) := by
 intro a0 a1 k
 have ih0 := impl_printed.mono_l k
 unfold impl_printed.f
 repeat' first
   | with_reducible first | exact ih0 _ _ _ | exact LeO.refl _ | exact LeO.none _ | refine LeO.ite ?_ ?_ | refine LeO.bind ?_ (fun _ => ?_)
   | exact ih0 _ _ _
   | exact LeO.none _
   | refine LeO.ite ?_ ?_
   | refine LeO.bind ?_ (fun _ => ?_)
set_option maxHeartbeats 8000000 in
set_option maxRecDepth 100000 in
theorem impl_printed.calls (k : Nat) (a0 : ByteArray) (a1 : Int) (r : Bool) (w : World) (h : impl_printed.f k a0 a1 = some r) :
  Calls Tryd.prog 62 #[.string a0, .int .i64 a1] w fun e w' => e = .returned (.bool r) ∧ Drawn0 w w' := by
 have H : (if (a0.size : Int) > a1 then (some false) else (impl_printed.l0 k a0 (a0.size : Int) 0)) = some r := h
 clear h
 by_cases c3 : (a0.size : Int) > a1
 ·rw [if_pos c3] at H
  have c3b0 : decide (a1 < (a0.size : Int)) = true := decide_eq_true c3
  clear c3
  obtain rfl := Option.some.inj H
  go_enter Tryd.func62, Tryd.ntmps62
  go_wp2
  go_ret
  exact ⟨by first | rfl | (simp; done) | (simp [*]; done), by repeat (first | exact Drawn0.refl _ | apply Drawn0.step)⟩
 ·rw [if_neg c3] at H
  have c3b0 : decide (a1 < (a0.size : Int)) = false := decide_eq_false c3
  clear c3
  have H' := am_ H
  clear H
  go_enter Tryd.func62, Tryd.ntmps62
  go_wp2
  go_loopg [12] k (fun kq v12 w' => ∃ (x12_1 : Int), v12 = .int .i64 x12_1 ∧ Aside0 (impl_printed.l0 kq a0 (a0.size : Int) x12_1 = some r) ∧ Aside0 (kq ≤ k) ∧ Drawn0 w w')
  case atStart => exact ⟨(0), rs_, H', ⟨Nat.le_refl _⟩, by repeat (first | exact Drawn0.refl _ | apply Drawn0.step)⟩
  case round =>
   clear H'
   try clear p2
   try clear c3
   try clear c3b0
   obtain ⟨x12_1, rfl, HA, HK1, ⟨m1, rfl⟩⟩ := hrel
   cases gk with
   | zero => exact absurd HA.out (by simp [impl_printed.l0])
   | succ k1 =>
    have H := HA.out
    clear HA
    simp only [impl_printed.l0] at H
    by_cases c4 : x12_1 < (a0.size : Int)
    ·rw [if_pos c4] at H
     have c4b0 : decide (x12_1 < (a0.size : Int)) = true := decide_eq_true c4
     clear c4
     by_cases c5 : 0 ≤ x12_1
     ·rw [if_pos c5] at H
      have c5b0 : decide (0 ≤ x12_1) = true := decide_eq_true c5
      clear c5
      by_cases c6 : x12_1 < (a0.size : Int)
      ·rw [if_pos c6] at H
       have c6b0 : decide (x12_1 < (a0.size : Int)) = true := decide_eq_true c6
       clear c6
       by_cases c8 : (bt a0 x12_1) < 32
       ·rw [if_pos c8] at H
        have c8b0 : decide ((bt a0 x12_1) < 32) = true := decide_eq_true c8
        clear c8
        obtain rfl := Option.some.inj H
        have p7 : 0 ≤ (x12_1 : Int) := od_
        have q7 : x12_1 < (a0.size : Int) := od_
        have hx7 := bt_at a0 x12_1
        replace p7 := eq_true p7
        replace q7 := eq_true q7
        go_wp2
        go_ret
        exact ⟨by first | rfl | (simp; done) | (simp [*]; done), by repeat (first | exact Drawn0.refl _ | apply Drawn0.step)⟩
       ·rw [if_neg c8] at H
        have c8b0 : decide ((bt a0 x12_1) < 32) = false := decide_eq_false c8
        clear c8
        by_cases c10 : (bt a0 x12_1) > 126
        ·rw [if_pos c10] at H
         have c10b0 : decide (126 < (bt a0 x12_1)) = true := decide_eq_true c10
         clear c10
         obtain rfl := Option.some.inj H
         have p7 : 0 ≤ (x12_1 : Int) := od_
         have q7 : x12_1 < (a0.size : Int) := od_
         have hx7 := bt_at a0 x12_1
         replace p7 := eq_true p7
         replace q7 := eq_true q7
         have p9 : 0 ≤ (x12_1 : Int) := od_
         have q9 : x12_1 < (a0.size : Int) := od_
         have hx9 := bt_at a0 x12_1
         replace p9 := eq_true p9
         replace q9 := eq_true q9
         go_wp2
         go_ret
         exact ⟨by first | rfl | (simp; done) | (simp [*]; done), by repeat (first | exact Drawn0.refl _ | apply Drawn0.step)⟩
        ·rw [if_neg c10] at H
         have c10b0 : decide (126 < (bt a0 x12_1)) = false := decide_eq_false c10
         clear c10
         have H' := am_ H
         clear H
         have p7 : 0 ≤ (x12_1 : Int) := od_
         have q7 : x12_1 < (a0.size : Int) := od_
         have hx7 := bt_at a0 x12_1
         replace p7 := eq_true p7
         replace q7 := eq_true q7
         have p9 : 0 ≤ (x12_1 : Int) := od_
         have q9 : x12_1 < (a0.size : Int) := od_
         have hx9 := bt_at a0 x12_1
         replace p9 := eq_true p9
         replace q9 := eq_true q9
         go_wp2
         go_roundg k1
         case measure => have := HK1.out; omega
         case rel => exact ⟨(wrap64 (x12_1 + 1)), rs_, H', ⟨by have := HK1.out; omega⟩, by repeat (first | exact Drawn0.refl _ | apply Drawn0.step)⟩
      ·rw [if_neg c6] at H
       exact absurd H (by simp)
     ·rw [if_neg c5] at H
      exact absurd H (by simp)
    ·rw [if_neg c4] at H
     have c4b0 : decide (x12_1 < (a0.size : Int)) = false := decide_eq_false c4
     clear c4
     obtain rfl := Option.some.inj H
     go_wp2
     go_ret
     exact ⟨by first | rfl | (simp; done) | (simp [*]; done), by repeat (first | exact Drawn0.refl _ | apply Drawn0.step)⟩

/-! ### strings_IndexByte: function 87 -/
def strings_IndexByte.f (a0 : ByteArray) (a1 : Int) : Option (Int) := some (Lib.indexByte a0.data.toList a1.toNat.toUInt8)
theorem strings_IndexByte.calls (a0 : ByteArray) (a1 : Int) (r : Int) (w : World) (h : strings_IndexByte.f a0 a1 = some r) :
  Calls Tryd.prog 87 #[.string a0, .int .u8 a1] w fun e w' => e = .returned (.int .i64 r) ∧ Drawn0 w w' := by
 obtain rfl := Option.some.inj h
 exact (Tryd.strings_IndexByte a0 a1 w).mono (fun e w' hp => ⟨hp.1, by rw [hp.2]; exact Drawn0.refl _⟩)

/-! ### impl_alternatives: function 80 -/
/-- Rows whose heads lie in a row: each read, none of them in a block that is not ok. -/
def Rows {α : Type} (d : Kd α) (e : Nat) (w : World) (base : Nat) (ok : Nat → Prop) (xs : List (Option Addr × Nat × Nat)) (o : List (List α)) : Prop := ∃ f : Nat → Nat, ∀ (j : Nat) (l : List α), o[j]? = some l → ∃ A c, xs[j]? = some (A, l.length, c) ∧ Kd.R d e w base (fun k => ok k ∧ f k = j) (.slice A l.length c) l
section
variable {α : Type} {d : Kd α} {e eo base g n c : Nat} {w w1 : World} {ok ok' : Nat → Prop} {xs xs' : List (Option Addr × Nat × Nat)} {o : List (List α)}
theorem rows_nil (d : Kd α) (e : Nat) (w : World) (base : Nat) (ok : Nat → Prop) (xs : List (Option Addr × Nat × Nat)) : Rows d e w base ok xs ([] : List (List α)) := ⟨fun _ => 0, fun j l h => by simp at h⟩
theorem rows_step (h : Rows d e w base ok xs o) (hm : ∀ k, ok k → k < w.heap.size → w1.heap[k]? = w.heap[k]?) (hok : ∀ k, ok k → k < w.heap.size → ok' k) (hx : ∀ j, j < o.length → xs'[j]? = xs[j]?) : Rows d e w1 base ok' xs' o := by
  obtain ⟨f, h⟩ := h
  refine ⟨f, fun j l hj => ?_⟩
  obtain ⟨A, c, h1, h2⟩ := h j l hj
  exact ⟨A, c, (hx j (List.getElem?_eq_some_iff.1 hj).1).trans h1, Kd.R_mono (Kd.R_move (Kd.R_bound h2) (fun k hk => hm k hk.1.1 hk.2.2.1)) (fun k hk => ⟨hok k hk.1.1 hk.2.2.1, hk.1.2⟩)⟩
theorem rows_below (h : Rows d e w base ok xs o) (hb : Below w.heap.size w w1) : Rows d e w1 base ok xs o := rows_step h (fun k _ hk => hb.block k hk) (fun _ hk _ => hk) (fun _ _ => rfl)
theorem rows_alloc (h : Rows d e w base ok xs o) (x : Obj) : Rows d e (w.alloc x) base ok xs o := rows_below h (below_alloc (Below.refl _ _) x)
theorem rows_drew (h : Rows d e w base ok xs o) : Rows d e w.drew base ok xs o := rows_below h (below_drew (Below.refl _ _))
theorem rows_drewN (h : Rows d e w base ok xs o) (m : Nat) : Rows d e (w.drewN m) base ok xs o := rows_below h (pw_below_drewN (Below.refl _ _) m)
theorem rq_ {p q : Prop} (H : Aside0 p) (h : p → q := by (intro hv_; (with_reducible repeat (first | apply rows_alloc | apply rows_drewN | apply rows_drew)); exact hv_)) : q := h H.out
theorem rows_snoc {A : Option Addr} {l : List α} {m : Nat} (hE : d.E = []) (h : Rows d e w base (fun k => ok k ∧ some k ≠ (.slice A m c : Value).ownBlock) xs o) (hl : xs[o.length]? = some (A, m, c)) (hm : l.length = m) (hr : Kd.R d e w base ok (.slice A m c) l) : Rows d e w base ok xs (o ++ [l]) := by
  subst hm
  obtain ⟨f, h⟩ := h
  refine ⟨fun k => if some k = (.slice A l.length c : Value).ownBlock then o.length else f k, fun j q hj => ?_⟩
  rcases Nat.lt_or_ge j o.length with hlt | hge
  · rw [List.getElem?_append_left hlt] at hj
    obtain ⟨A', c', h1, h2⟩ := h j q hj
    exact ⟨A', c', h1, Kd.R_mono h2 (fun k hk => ⟨hk.1.1, (if_neg hk.1.2).trans hk.2⟩)⟩
  · have : j = o.length := by
      have := (List.getElem?_eq_some_iff.1 hj).1
      rw [List.length_append, List.length_singleton] at this
      omega
    subst this
    obtain rfl : l = q := by simpa using hj
    exact ⟨A, c, hl, Kd.R_mono (Kd.R_tight hE hr) (fun k hk => ⟨hr.1 k hk.symm, if_pos hk⟩)⟩
theorem rows_R (h : Rows d e w base (fun k => k ≠ g) xs o) (hlen : o.length = xs.length) (hO : Kd.R kcut eo w base ok (.slice (some ⟨g, 0, none⟩) n c) xs) : Kd.S (Kd.slice e d) eo w base (fun _ => True) (.slice (some ⟨g, 0, none⟩) n c) o := by
  have own := Kd.own_of_R (enc := fun x : Option Addr × Nat × Nat => .slice x.1 x.2.1 x.2.2) (h1 := fun _ => rfl) hO
  obtain ⟨f, h⟩ := h
  refine ⟨f, fun _ _ => trivial, encs (fun x : Option Addr × Nat × Nat => .slice x.1 x.2.1 x.2.2) xs, by rw [List.length_zipIdx, hlen]; exact own, by rw [encs_length, List.length_zipIdx, hlen]; exact (Nat.mul_one _).symm, fun j p hj => ?_⟩
  rw [List.getElem?_zipIdx, Nat.zero_add] at hj
  obtain ⟨l, hl, rfl⟩ := Option.map_eq_some_iff.1 hj
  obtain ⟨A, c', h1, h2⟩ := h j l hl
  obtain ⟨hx, h1⟩ := List.getElem?_eq_some_iff.1 h1
  refine ⟨.slice A l.length c', ?_, Kd.R_mono h2 (fun k hk => ⟨⟨trivial, fun he => hk.1 (by simpa [Value.ownBlock] using he)⟩, hk.2⟩)⟩
  show ((encs (fun x : Option Addr × Nat × Nat => Value.slice x.1 x.2.1 x.2.2) xs).drop (j * 1)).take 1 = _
  rw [Nat.mul_one, List.drop_eq_getElem_cons (by rw [encs_length]; exact hx)]
  simp [encs, h1]
end
def impl_put.T1 : Bool × List (List Nat × List Nat) := (true, [([], []), ([], []), ([1], [1]), ([2], [2]), ([], []), ([], []), ([5], [5]), ([6], [6]), ([4, 7], [4, 7]), ([8], [8]), ([], []), ([10], [10]), ([9, 11], [9, 11]), ([0, 3, 0, 1, 2, 3, 4, 5, 6, 7, 8, 9, 10, 11, 12], [0, 3]), ([13, 12, 12, 0, 1, 2, 3, 4, 5, 6, 7, 8, 9, 10, 11, 12], [12, 13])])
def impl_put.B1 : List Nat := [0, 0, 2, 6, 0, 0, 32, 96, 240, 496, 0, 1024, 4080, 8191, 16383]
theorem impl_put.tab1 : rtab .any (opsOf Tryd.f86 1) = impl_put.T1 := by kernel_rfl
theorem impl_put.bits1 : waitsOk impl_put.T1.2 impl_put.B1 = true := by kernel_rfl
set_option maxHeartbeats 8000000 in
set_option maxRecDepth 100000 in
theorem impl_put.calls (x : S108) (gb g n c m : Nat) (J : Int) (xs : List (Option Addr × Nat × Nat)) (Ai : Option Addr) (ci : Nat) (ps : List S108) (w0 w : World) (hB : Below w0.heap.size w0 w) (hJ : ((n : Nat) : Int) - 1 = J) (hn : n ≤ 1000) (h1 : 1 ≤ n) (hm : ps.length = m) (hml : m ≤ 1000)
    (hbk : w.heap[gb]? = some (.cells #[.slice (some ⟨g, 0, none⟩) n c] 99 (0, 0))) (hS : w.cell? ⟨g, J.toNat, none⟩ = some (.slice Ai m ci)) (hO : Kd.R kcut 109 w w0.heap.size (fun k => k = g) (.slice (some ⟨g, 0, none⟩) n c) xs) (hI : Kd.R k108 108 w w0.heap.size (fun k => k ≠ gb ∧ k ≠ g) (.slice Ai m ci) ps) :
    Calls Tryd.prog 86 #[.agg #[.int .u8 x.f0, .bool x.f1, .bool x.f2], .pointer (some ⟨gb, 0, none⟩)] w fun e w' => (∃ v, e = .returned v) ∧ Below w0.heap.size w0 w' ∧ w'.heap[gb]? = some (.cells #[.slice (some ⟨g, 0, none⟩) n c] 99 (0, 0)) ∧ ∃ Aj cj, Kd.R kcut 109 w' w0.heap.size (fun k => k = g) (.slice (some ⟨g, 0, none⟩) n c) (xs.set J.toNat (Aj, m + 1, cj)) ∧ Kd.R k108 108 w' w0.heap.size (fun k => k ≠ gb ∧ k ≠ g) (.slice Aj (m + 1) cj) (ps ++ [x]) ∧ (∀ k, k < w.heap.size → k ≠ g → some k ≠ (.slice Ai m ci : Value).ownBlock → w'.heap[k]? = w.heap[k]?) ∧ ((.slice Aj (m + 1) cj : Value).ownBlock = (.slice Ai m ci : Value).ownBlock ∨ ∃ b, (.slice Aj (m + 1) cj : Value).ownBlock = some b ∧ w.heap.size ≤ b) := by
  have hu := Tryd.underlying108
  have iP : (Tryd.prog.info? 108).map (fun i => (i.zero, i.size, i.bytes)) = some (some (.agg #[.int .u8 0, .bool false, .bool false]), 3, 3) := by kernel_rfl
  have HB := am_ hB
  have BK := am_ hbk
  have HS1 := am_ hS
  have HO := am_ hO
  have HI := am_ hI
  have HGL := am_ (Kd.R_lt hO g rfl)
  have HL := am_ (show ps.length ≤ 1000 by omega)
  have HM := am_ hm
  have hJw : IntKind.i64.wrap ((n : Int) - 1) = J := by rw [IntKind.wrap_i64]; omega
  have hJv : wrap64 ((n : Int) - 1) = J := by unfold wrap64; omega
  have hj0 : (0 ≤ J) = True := eq_true (by omega)
  have hj1 : (J < (n : Int)) = True := eq_true (by omega)
  have HN := am_ hn
  clear hB hbk hS hO hI hm hn h1 hml hJ
  go_enter Tryd.func86, Tryd.ntmps86
  go_wp2_with (first | ((with_reducible refine gate_dst (N := 2) rfl ?_); refine bx_ 2 #[.int .u8 x.f0, .bool x.f1, .bool x.f2] 108 ?_; intro gx hg w8 hbox hb; have n0_ := am_ (Kd.R_below HO.out hb); have n1_ := am_ (Kd.R_below (Kd.R_elderB HI.out gx (Nat.le_of_eq hg.symm)) hb); have n2_ := am_ (blk_below (g := gb) BK.out hb); have n3_ := am_ (below_step HB.out hb); have n4_ := am_ (kp_ ⟨hb⟩ HS1.out); have n5_ := am_ (Nat.lt_of_lt_of_le HGL.out hb.size); have n6_ := am_ hb; have BX := am_ hbox; clear HO HI BK HB HS1 HGL; have HO := n0_; have HI := n1_; have BK := n2_; have HB := n3_; have HS1 := n4_; have HGL := n5_; have HK := n6_; clear n0_ n1_ n2_ n3_ n4_ n5_ n6_ hb hbox hg))
  have n0_ := am_ (Kd.R_drew HO.out)
  have n1_ := am_ (Kd.R_drew HI.out)
  have n2_ := am_ (blk_drew BK.out)
  have n3_ := am_ (below_drew1 HB.out)
  have n4_ := am_ (show w8.drew.cell? ⟨g, J.toNat, none⟩ = some (.slice Ai m ci) from HS1.out)
  have n5_ := am_ (show g < w8.drew.heap.size from HGL.out)
  have n6_ := am_ (blk_drew BX.out)
  have n7_ := am_ (below_drew1 HK.out)
  clear HO HI BK HB HS1 HGL BX HK
  have HO := n0_
  have HI := n1_
  have BK := n2_
  have HB := n3_
  have HS1 := n4_
  have HGL := n5_
  have BX := n6_
  have HK := n7_
  clear n0_ n1_ n2_ n3_ n4_ n5_ n6_ n7_
  refine start_ (n := 15) (S := fun w' => w'.cell? ⟨gb, 0, none⟩ = some (.slice (some ⟨g, 0, none⟩) n c) ∧ w'.cell? ⟨g, J.toNat, none⟩ = some (.slice Ai m ci) ∧ w'.cell? ⟨gx, 0, none⟩ = some (.int .u8 x.f0) ∧ w'.cell? ⟨gx, 1, none⟩ = some (.bool x.f1) ∧ w'.cell? ⟨gx, 2, none⟩ = some (.bool x.f2)) (ds := [14]) (bz 15 0) (by kernel_rfl) rfl rfl ⟨(bc1_0 BK), HS1.out, (bc3_0 BX), (bc3_1 BX), (bc3_2 BX)⟩ (fun hHeld => ?_)
  refine with_tabW impl_put.tab1 impl_put.bits1 (fun HT_ HW_ => ?_)
  generalize w8.drew = w9 at BK BX HB HO HI HS1 HGL HK hHeld ⊢
  refine tz_ 0 3 1 ?_
  refine tz_ 1 4 3 ?_
  refine pz_ 2 5 7 ?_
  refine pz_ 3 6 15 ?_
  refine tz_ 4 7 31 ?_
  refine tz_ 5 8 63 ?_
  refine pz_ 6 9 127 ?_
  refine pz_ 7 10 255 ?_
  refine pz_ 8 11 511 ?_
  refine tz_ 9 12 1023 ?_
  refine tz_ 10 13 2047 ?_
  refine one_ (i := 11) (N := some 14) (bz 15 4095) rfl rfl (one_of HT_.out (by kernel_rfl)) (by decide) (fun K hK => ?_)
  refine value_ (w1 := ?_) (v := ?_) (by rfl) rfl ?_ ?_
  rotate_left 2
  · go_simp
    constructor
    · rfl
    · rfl
  refine hK.out _ _ ⟨(blk_cell (blk_alloc BK.out _) 0).trans rfl, kp_ ⟨below_alloc (Below.refl _ _) _⟩ HS1.out, (blk_cell (blk_alloc BX.out _) 0).trans rfl, (blk_cell (blk_alloc BX.out _) 1).trans rfl, (blk_cell (blk_alloc BX.out _) 2).trans rfl⟩ (fun hHeld => ?_)
  clear hK K
  refine norm_ (a' := ?_) ?_ ?_
  rotate_left
  · show Act.put _ (some 14) _ = _
    simp only [Act.put, List.setIfInBounds_toArray, List.set_cons_zero, List.set_cons_succ, i64_w, i32_w]
    rfl
  refine one_ (i := 12) (N := some 15) (bz 15 8191) rfl rfl (one_of HT_.out (by kernel_rfl)) (by decide) (fun K hK => ?_)
  refine Kd.R_append_step k108 (w0 := w0) w0.heap.size (by rfl) (.tmp 12) (.tmp 14) 109 108 (.agg #[.int .u8 0, .bool false, .bool false]) 3 rfl Tryd.underlying109 iP rfl (by decide) (by omega) (.slice Ai m ci) ps x [.int .u8 x.f0, .bool x.f1, .bool x.f2] (fun k_ => (k_ ≠ gb ∧ k_ ≠ g) ∧ k_ ≠ gx) (fun _ => False) rfl rfl ?aP (fun _ hk => hk.elim) ?aF ?aO ?aB ?aS ?aL ?_
  (case aP => exact k108_mkM _ _ _ x)
  (case aB => exact bg_)
  (case aF => exact (fun k_ hk => ⟨⟨fun e_ => by have h_ := blk_lt BK.out; omega, fun e_ => by have h_ := HGL.out; omega⟩, fun e_ => by have h_ := blk_lt BX.out; omega⟩))
  (case aO => exact HI.out)
  (case aS => exact (below_size bg_))
  (case aL => have h_ := HL.out; omega)
  intro v15 w15 ho hb hg hat
  have hnb : some gb ≠ (.slice Ai m ci : Value).ownBlock := Kd.R_away HI.out (fun _ hk => hk.1.1)
  have hng : some g ≠ (.slice Ai m ci : Value).ownBlock := Kd.R_away HI.out (fun _ hk => hk.1.2)
  have hnx : some gx ≠ (.slice Ai m ci : Value).ownBlock := Kd.R_away HI.out (fun _ hk => hk.2)
  have n0_ := am_ (blk_grown (g := gb) BK.out hg hnb)
  have n1_ := am_ (blk_grown (g := gx) BX.out hg hnx)
  have n2_ := am_ hb
  have n3_ := am_ ho
  have n4_ := am_ (show Kd.R kcut 109 w15 w0.heap.size (fun k => k = g) (.slice (some ⟨g, 0, none⟩) n c) xs from Kd.R_move HO.out (fun k_ hk => by rw [show k_ = g from hk]; exact hg.block g HGL.out hng))
  have n5_ := am_ ((World.cell?_of_block (a := ⟨g, J.toNat, none⟩) (hg.block g HGL.out hng)).trans HS1.out)
  have n6_ := am_ (Nat.lt_of_lt_of_le HGL.out hg.size)
  have n7_ := am_ (show ∀ k, k < w.heap.size → some k ≠ (.slice Ai m ci : Value).ownBlock → w15.heap[k]? = w.heap[k]? from fun k hk hn => (hg.block k (Nat.lt_of_lt_of_le hk HK.out.size) hn).trans (HK.out.block k hk))
  have n8_ := am_ (show (v15 : Value).ownBlock = (.slice Ai m ci : Value).ownBlock ∨ ∃ b, (v15 : Value).ownBlock = some b ∧ w.heap.size ≤ b from hat.imp id (fun h_ => h_.elim fun b h2_ => ⟨b, h2_.1, Nat.le_trans HK.out.size h2_.2⟩))
  clear BK BX HB HI HO HS1 HGL HK hnb hng hnx ho hb hg hat
  have BK := n0_
  have BX := n1_
  have HB := n2_
  have HI := n3_
  have HO := n4_
  have HS1 := n5_
  have HGL := n6_
  have HKP := n7_
  have HOB := n8_
  clear n0_ n1_ n2_ n3_ n4_ n5_ n6_ n7_ n8_
  obtain ⟨Aj, cj, ej⟩ := Kd.R_slice HI.out
  subst ej
  obtain ⟨cl_, hcl_⟩ := Kd.R_typed HO.out g rfl
  have hfr := blk_frozen hcl_ J.toNat
  refine hK.out _ _ ⟨(bc1_0 BK), HS1.out, (bc3_0 BX), (bc3_1 BX), (bc3_2 BX)⟩ (fun hHeld => ?_)
  clear hK K
  refine norm_ (a' := ?_) ?_ ?_
  rotate_left
  · show Act.put _ (some 15) _ = _
    simp only [Act.put, List.setIfInBounds_toArray, List.set_cons_zero, List.set_cons_succ, i64_w, i32_w]
    rfl
  refine pz_ 13 16 16383 ?_
  refine last_ (i := 14) (N := none) (bz 15 32767) rfl rfl (one_of HT_.out (by kernel_rfl)) (by decide) (fun K hK => ?_)
  refine skip_ (w1 := ?_) (by rfl) rfl ?_ ?_
  rotate_left
  · go_simp
    rfl
  refine hK.out _ _ ?_
  clear hK K
  refine done_ (done_of HT_.out (by kernel_rfl)) ?_
  
  have hgb : w0.heap.size ≤ g := ((Kd.R_bound HO.out).1 g rfl).2.1
  have hne : some gb ≠ (.slice (some ⟨g, 0, none⟩) n c : Value).ownBlock := Kd.R_ne HO.out BK.out (by decide)
  have hl2 : (ps ++ [x]).length = m + 1 := by rw [List.length_append, List.length_singleton, HM.out]
  have hl3 := HM.out
  subst hl3
  refine bodyPost_end (results_none rfl _ _ _) rfl ?_
  refine ⟨⟨_, rfl⟩, below_set HB.out hgb, blk_far BK.out (fun e_ => hne (by rw [e_]; rfl)) _, Aj, cj, ?_, ?_, ?_, ?_⟩
  · exact Kd.R_putn (enc := fun x : Option Addr × Nat × Nat => .slice x.1 x.2.1 x.2.2) (h1 := fun _ => rfl) HO.out J (Aj, ps.length + 1, cj)
  · have h9 := Kd.R_mono (Kd.R_far (p := ⟨g, J.toNat, none⟩) HI.out (fun _ hk => hk.1.2) (.slice Aj (ps.length + 1) cj)) (fun _ hk => hk.1)
    rw [hl2] at h9
    exact h9
  · exact fun k_ hk hk2 hk3 => (Below.heap_setCell _ ⟨g, J.toNat, none⟩ _ k_ hk2).trans (HKP.out k_ hk hk3)
  · have h9 := HOB.out
    rw [hl2] at h9
    exact h9
theorem cut_tight {e base g n c : Nat} {w : World} {ok : Nat → Prop} {xs : List (Option Addr × Nat × Nat)} (h : Kd.R kcut e w base ok (.slice (some ⟨g, 0, none⟩) n c) xs) : Kd.R kcut e w base (fun k => k = g) (.slice (some ⟨g, 0, none⟩) n c) xs :=
  Kd.R_of_own (enc := fun x : Option Addr × Nat × Nat => .slice x.1 x.2.1 x.2.2) (h1 := fun _ => rfl) (Kd.own_of_R (enc := fun x : Option Addr × Nat × Nat => .slice x.1 x.2.1 x.2.2) (h1 := fun _ => rfl) h) (fun k hk => by simp [Value.ownBlock] at hk; exact hk.symm)
theorem cut_cell {e base g n c j : Nat} {w : World} {ok : Nat → Prop} {xs : List (Option Addr × Nat × Nat)} {x : Option Addr × Nat × Nat} (h : Kd.R kcut e w base ok (.slice (some ⟨g, 0, none⟩) n c) xs) (hx : xs[j]? = some x) : w.cell? ⟨g, j, none⟩ = some (.slice x.1 x.2.1 x.2.2) := by
  obtain ⟨h1, h2, h3⟩ := Kd.R_reads' h
  have h4 := Kd.reads_of_C (enc := fun x : Option Addr × Nat × Nat => .slice x.1 x.2.1 x.2.2) (d := (none, 0, 0)) (h1 := fun _ => rfl) h3
  obtain ⟨hj, hx⟩ := List.getElem?_eq_some_iff.1 hx
  obtain ⟨ad, e1, h5⟩ := h4.2.2 (by omega)
  cases e1
  have h6 := h5 j hj
  rw [List.getD_eq_getElem?_getD, List.getElem?_eq_getElem hj, Option.getD_some, hx, add_plain] at h6
  exact h6
theorem cut_cell3 {e base g n c j : Nat} {w : World} {ok : Nat → Prop} {xs : List (Option Addr × Nat × Nat)} {A : Option Addr} {m ci : Nat} (h : Kd.R kcut e w base ok (.slice (some ⟨g, 0, none⟩) n c) xs) (hx : xs[j]? = some (A, m, ci)) : w.cell? ⟨g, j, none⟩ = some (.slice A m ci) := cut_cell h hx
theorem four_at : ∀ b : Fin 256, decide (Lib.indexByte [42, 63, 124, 92] (UInt8.ofNat b.val) < 0) = !(okE ((b.val : Nat) : Int)) := by decide +kernel
theorem four_of {d : Int} (h0 : 0 ≤ d) (h1 : d ≤ 255) : decide (Lib.indexByte [42, 63, 124, 92] d.toNat.toUInt8 < 0) = !(okE d) := by
  have h := four_at ⟨d.toNat, by omega⟩
  simp only [Int.toNat_of_nonneg h0] at h
  exact h
/-- A code as a piece. -/
def altP (c : Int) : S108 := if c = -1 then ⟨0, false, true⟩ else if c = -2 then ⟨0, true, false⟩ else ⟨c, false, false⟩
theorem altP_bt (s : ByteArray) (i : Int) : altP (bt s i) = ⟨bt s i, false, false⟩ := by have := bt_range s i; unfold altP; rw [if_neg (by omega), if_neg (by omega)]
/-- What an append to the row in hand leaves of the rows ahead of it. -/
theorem rows_put {α : Type} {d : Kd α} {e base g gb m ci cj j : Nat} {Ai Aj : Option Addr} {w w1 : World} {xs : List (Option Addr × Nat × Nat)} {o : List (List α)} (h : Rows d e w base (fun k => k ≠ gb ∧ k ≠ g ∧ some k ≠ (.slice Ai m ci : Value).ownBlock) xs o) (hj : o.length ≤ j) (hk : ∀ k, k < w.heap.size → k ≠ g → some k ≠ (.slice Ai m ci : Value).ownBlock → w1.heap[k]? = w.heap[k]?) (hb : (.slice Aj (m + 1) cj : Value).ownBlock = (.slice Ai m ci : Value).ownBlock ∨ ∃ b, (.slice Aj (m + 1) cj : Value).ownBlock = some b ∧ w.heap.size ≤ b) : Rows d e w1 base (fun k => k ≠ gb ∧ k ≠ g ∧ some k ≠ (.slice Aj (m + 1) cj : Value).ownBlock) (xs.set j (Aj, m + 1, cj)) o := by
  refine rows_step h (fun k h1 h2 => hk k h2 h1.2.1 h1.2.2) (fun k h1 h2 => ⟨h1.1, h1.2.1, ?_⟩) (fun i hi => List.getElem?_set_ne (by omega))
  rcases hb with hb | ⟨b, hb, hle⟩
  · rw [hb]; exact h1.2.2
  · rw [hb]; intro he; injection he with he; omega
/-- A new row behind the row in hand, which stays as it is from there on. -/
theorem rows_bar {α : Type} {d : Kd α} {e base g gb m ci g2 n2 c2 n c : Nat} {Ai : Option Addr} {w w1 : World} {xs ys : List (Option Addr × Nat × Nat)} {o : List (List α)} {l : List α} (hE : d.E = []) (h : Rows d e w base (fun k => k ≠ gb ∧ k ≠ g ∧ some k ≠ (.slice Ai m ci : Value).ownBlock) xs o) (hx : xs[o.length]? = some (Ai, m, ci)) (hm : l.length = m) (hI : Kd.R d e w base (fun k => k ≠ gb ∧ k ≠ g) (.slice Ai m ci) l) (hl : o.length + 1 = xs.length)
    (hg : w.grownBy w1 (.slice (some ⟨g, 0, none⟩) n c : Value).ownBlock) (hat : (.slice (some ⟨g2, 0, none⟩) n2 c2 : Value).ownBlock = (.slice (some ⟨g, 0, none⟩) n c : Value).ownBlock ∨ ∃ b, (.slice (some ⟨g2, 0, none⟩) n2 c2 : Value).ownBlock = some b ∧ w.heap.size ≤ b) : Rows d e w1 base (fun k => k ≠ gb ∧ k ≠ g2) (xs ++ ys) (o ++ [l]) := by
  have h1 : Rows d e w base (fun k => k ≠ gb ∧ k ≠ g) xs (o ++ [l]) := rows_snoc (ok := fun k => k ≠ gb ∧ k ≠ g) hE (rows_step h (fun _ _ _ => rfl) (fun k hk _ => ⟨⟨hk.1, hk.2.1⟩, hk.2.2⟩) (fun _ _ => rfl)) hx hm hI
  refine rows_step h1 (fun k hk hlt => hg.block k hlt (fun he => hk.2 (by simpa [Value.ownBlock] using he))) (fun k hk hlt => ⟨hk.1, ?_⟩) (fun j hj => List.getElem?_append_left (by simp at hj; omega))
  rcases hat with hb | ⟨b, hb, hle⟩
  · have : g2 = g := by simpa [Value.ownBlock] using hb
    rw [this]; exact hk.2
  · have : g2 = b := by simpa [Value.ownBlock] using hb
    omega
def impl_alternatives.f (k : Nat) (a0 : ByteArray) : Option (List (List S108) × Bool) := (impl_printed.f k a0 100).bind fun t => if t = true then (if a0.size ≤ 900 then some ((altA a0 0 [] []).1.map (List.map altP), (altA a0 0 [] []).2) else none) else some ([], false)
theorem impl_alternatives.mono : ∀ a0 k, LeO (impl_alternatives.f k a0) (impl_alternatives.f (k + 1) a0) := by
  intro a0 k
  unfold impl_alternatives.f
  exact LeO.bind (impl_printed.mono _ _ _) (fun _ => LeO.refl _)
set_option maxHeartbeats 32000000 in
set_option maxRecDepth 100000 in
theorem impl_alternatives.calls (k : Nat) (a0 : ByteArray) (r1 : List (List S108)) (r2 : Bool) (w : World) (h : impl_alternatives.f k a0 = some (r1, r2)) :
    Calls Tryd.prog 80 #[.string a0] w fun e w' => ∃ v0_ : Value, e = .returned (.tuple #[v0_, .bool r2]) ∧ Kd.S (Kd.slice 108 k108) 109 w' w.heap.size (fun _ => True) v0_ r1 ∧ Below w.heap.size w w' := by
  have iS : (Tryd.prog.info? 109).map (fun i => (i.zero, i.size, i.bytes)) = some (some (.slice none 0 0), 1, 24) := by kernel_rfl
  have hu := Tryd.underlying108
  have HB := am_ (Below.refl w.heap.size w)
  unfold impl_alternatives.f at h
  obtain ⟨t, ht, h⟩ := Option.bind_eq_some_iff.mp h
  have HT := am_ ht
  clear ht
  cases t with
  | false =>
    rw [if_neg (by decide)] at h
    simp only [Option.some.injEq, Prod.mk.injEq] at h
    obtain ⟨rfl, rfl⟩ := h
    go_enter Tryd.func80, Tryd.ntmps80
    go_wp2_with (first | (go_at_call 62; refine (impl_printed.calls k a0 100 false _ HT.out).mono ?_; rintro e w' ⟨rfl, ⟨nd, rfl⟩⟩))
    go_ret2
    exact ⟨_, rf_, ni_, bl_⟩
  | true =>
    rw [if_pos rfl] at h
    by_cases hz : a0.size ≤ 900
    · rw [if_pos hz] at h
      have HZ := am_ hz
      obtain ⟨qs, hq⟩ : ∃ qs, (altA a0 0 [] []).1 = qs := ⟨_, rfl⟩
      simp only [Option.some.injEq, Prod.mk.injEq] at h
      have HR := am_ (show altA a0 0 [] [] = (qs, r2) from Prod.ext hq h.2)
      have HQ := am_ (show qs.map (List.map altP) = r1 from by rw [← hq]; exact h.1)
      clear h hz hq
      go_enter Tryd.func80, Tryd.ntmps80
      go_wp2_with (first | (go_at_call 62; refine (impl_printed.calls k a0 100 true _ HT.out).mono ?_; rintro e w' ⟨rfl, ⟨nd, rfl⟩⟩) | ((with_reducible refine gate_dst (N := 11) rfl ?_); refine Kd.R_lit kcut _ 109 ?hg (N := 11) ?hd (xs := [(none, 0, 0)]) (inner := [.slice none 0 0]) (ok := fun _ => True) (okp := fun _ => True) ?hr ?hp (fun _ hk => hk) trivial (Below.refl _ _) (Nat.le_refl _) (by simp) ?_; (case hd => rfl); (case hg => rfl); (case hr => first | (go_simp; done) | (go_simp; rfl)); (case hp => exact (Reps.one (show Kd.M kcut _ _ _ (none, 0, 0) [.slice none 0 0] from rfl) (Reps.none _ _))); intro v11 w11 ho hb hg_ hnew_; obtain ⟨g0, cp0, ev0, hz1_, hz2_, hz3_⟩ := Kd.R_form ho (by simp); subst ev0; have n0_ := am_ (cut_tight (Kd.R_lower ho (below_size bl_))); have n1_ := am_ (below_step bl_ hb); clear HB; have HO := n0_; have HB := n1_; clear n0_ n1_ ho hb hg_ hnew_ hz1_ hz2_ hz3_) | ((with_reducible refine gate_dst (N := 4) rfl ?_); refine bx_ 4 #[.slice none 0 0] 99 ?_; intro gb hg w12 hbox hb; have n0_ := am_ (Kd.R_below HO.out hb); have n1_ := am_ (below_step bl_ hb); have GE := am_ (gs_ hg : w.heap.size ≤ gb); have BK := am_ hbox; clear HO HB; have HO := n0_; have HB := n1_; clear n0_ n1_ hb hbox hg; have hcz1_0 := bc1_0 BK; have hfz1_0 := bf_ BK 0))
      have hne0 : g0 ≠ gb := fun e_ => Kd.R_ne HO.out BK.out (by decide) (by rw [e_]; rfl)
      have HNE := am_ hne0
      clear hne0 hcz1_0 hfz1_0
      go_loopg [6] a0.size (fun gg v6 w' => ∃ (g n c : Nat) (xs : List (Option Addr × Nat × Nat)) (Ai : Option Addr) (m ci : Nat) (o : List (List Int)) (nw : List Int) (i : Nat), v6 = .int .i64 (i : Int) ∧ Aside0 (n = xs.length ∧ 1 ≤ n ∧ n ≤ i + 1 ∧ m ≤ i ∧ nw.length = m ∧ i ≤ a0.size ∧ a0.size ≤ 900 ∧ xs[n - 1]? = some (Ai, m, ci) ∧ a0.size - i ≤ gg ∧ o.length + 1 = n) ∧ Aside0 (altA a0 i o nw = (qs, r2)) ∧ Aside0 (w'.heap[gb]? = some (.cells #[.slice (some ⟨g, 0, none⟩) n c] 99 (0, 0))) ∧ Aside0 (g ≠ gb) ∧ Aside0 (Kd.R kcut 109 w' w.heap.size (fun k => k = g) (.slice (some ⟨g, 0, none⟩) n c) xs) ∧ Aside0 (Kd.R k108 108 w' w.heap.size (fun k => k ≠ gb ∧ k ≠ g) (.slice Ai m ci) (nw.map altP)) ∧ Aside0 (Rows k108 108 w' w.heap.size (fun k => k ≠ gb ∧ k ≠ g ∧ some k ≠ (.slice Ai m ci : Value).ownBlock) xs (o.map (List.map altP))) ∧ Aside0 (Below w.heap.size w w'))
      case atStart => exact ⟨g0, 1, cp0, [(none, 0, 0)], none, 0, 0, [], [], 0, rs_, ⟨by have := HZ.out; simp; omega⟩, HR, ⟨blk_put (cs := #[.slice none 0 0]) BK.out 0 _ rfl⟩, HNE, ⟨Kd.R_far (p := ⟨gb, 0, none⟩) HO.out (fun k_ hk => by rw [show k_ = g0 from hk]; exact HNE.out) _⟩, ⟨Kd.R_nil _ _ _ _ _⟩, ⟨rows_nil _ _ _ _ _ _⟩, ⟨below_set HB.out GE.out⟩⟩
      case round =>
        obtain ⟨g, n, c, xs, Ai, m, ci, o, nw, i, rfl, HL, HA, BK, HNE, HO, HI, HS, HB⟩ := hrel
        obtain ⟨I, hI⟩ : ∃ I : Int, (i : Int) = I := ⟨_, rfl⟩
        rw [hI]
        have HIq := am_ hI
        have hcz2_0 := bc1_0 BK
        have hfz2_0 := bf_ BK 0
        by_cases c4 : I < (a0.size : Int)
        · have c4b0 : decide (I < (a0.size : Int)) = true := decide_eq_true c4
          have hI0 : 0 ≤ I := by omega
          have hx6 := bt_at a0 I
          have p6 := eq_true hI0
          have q6 := eq_true c4
          have HIL := am_ c4
          clear c4 hI0 hI
          by_cases d124 : bt a0 I = 124
          · have c124b0 : (bt a0 I == 124) = true := beq_iff_eq.mpr d124
            have HN := am_ d124
            clear d124
            have HS0 := am_ (show xs[(o.map (List.map altP)).length]? = some (Ai, m, ci) from by have h_ := HL.out.2.2.2.2.2.2.2.1; have h2_ := HL.out; rw [List.length_map, show o.length = n - 1 from by omega]; exact h_)
            go_wp2_with (first | ((with_reducible refine gate_builtin (b := .append) (xs := #[.tmp 29, .tmp 30]) rfl ?_); at_builtin; refine Kd.R_append kcut (w0 := w) w.heap.size rfl (.tmp 29) (.tmp 30) 99 109 (.slice none 0 0) 24 rfl Tryd.underlying99 iS rfl (by decide) (by omega) (.slice (some ⟨g, 0, none⟩) n c) xs (none, 0, 0) [.slice none 0 0] (fun k_ => k_ ≠ gb) (fun _ => False) rfl rfl ?aP (fun _ hk => hk.elim) ?aF ?aO ?aB ?aS ?aL ?_; (case aP => exact rfl); (case aB => exact bl_); (case aF => exact (fun k_ hk e_ => by have h_ := blk_lt BK.out; omega)); (case aO => exact Kd.R_mono (show Kd.R kcut 109 _ w.heap.size (fun k => k = g) (.slice (some ⟨g, 0, none⟩) n c) xs from ro_ HO) (fun k_ hk => by rw [show k_ = g from hk]; exact HNE.out)); (case aS => exact (below_size bl_)); (case aL => have := HL.out; omega); intro v31 w31 ho hb hg hat; obtain ⟨g2, cp2, ev2, hz1_, hz2_, hz3_⟩ := Kd.R_form ho (by simp); subst ev2; have n0_ := am_ (show g2 ≠ gb from ho.1 g2 rfl); have n1_ := am_ (cut_tight ho); have n2_ := am_ hb; have n3_ := am_ (blk_grown (g := gb) (o := .cells #[.slice (some ⟨g, 0, none⟩) n c] 99 (0, 0)) (vk_ BK) hg (fun e_ => HNE.out (by simp [Value.ownBlock] at e_; exact e_.symm))); have n4_ := am_ (rows_bar (ys := [(none, 0, 0)]) (l := (nw.map altP)) rfl (show Rows k108 108 _ w.heap.size (fun k => k ≠ gb ∧ k ≠ g ∧ some k ≠ (.slice Ai m ci : Value).ownBlock) xs (o.map (List.map altP)) from rq_ HS) HS0.out (by rw [List.length_map]; exact HL.out.2.2.2.2.1) (show Kd.R k108 108 _ w.heap.size (fun k => k ≠ gb ∧ k ≠ g) (.slice Ai m ci) (nw.map altP) from ro_ HI) (by have := HL.out; rw [List.length_map]; omega) hg hat); clear HO HB BK HNE HI HS; have HNE := n0_; have HO := n1_; have HB := n2_; have BK := n3_; have HS := n4_; clear n0_ n1_ n2_ n3_ n4_ ho hb hg hat hz1_ hz2_ hz3_; have hcz3_0 := bc1_0 BK; have hfz3_0 := bf_ BK 0))
            go_roundg (a0.size - (i + 1))
            case measure => have h1_ := HIq.out; have h2_ := HL.out; have h3_ := HIL.out; omega
            case rel => exact ⟨g2, xs.length + 1, cp2, xs ++ [(none, 0, 0)], none, 0, 0, o ++ [nw], [], i + 1, (by first | rfl | (have h1_ := HIq.out; have h2_ := HL.out; have h3_ := HIL.out;  congr 1; unfold wrap64; omega)), ⟨by have h1_ := HIq.out; have h2_ := HL.out; have h3_ := HIL.out;  refine ⟨by simp, by omega, by omega, by omega, rfl, by omega, by omega, ?_, by omega, by simp; omega⟩; simp⟩, ⟨(altA_bar (by have h1_ := HIq.out; have h3_ := HIL.out; omega) (by rw [HIq.out]; exact HN.out)).symm.trans HA.out⟩, ⟨blk_put (cs := #[.slice (some ⟨g, 0, none⟩) n c]) BK.out 0 _ rfl⟩, HNE, ⟨by have h8 := HO.out; rw [List.length_append, List.length_singleton] at h8; exact Kd.R_far (p := ⟨gb, 0, none⟩) h8 (fun k_ hk => by rw [show k_ = g2 from hk]; exact HNE.out) _⟩, ⟨Kd.R_nil _ _ _ _ _⟩, ⟨by rw [List.map_append, List.map_singleton]; exact rows_step HS.out (fun k_ hk _ => Below.heap_setCell _ ⟨gb, 0, none⟩ _ k_ hk.1) (fun k_ hk _ => ⟨hk.1, hk.2, by simp [Value.ownBlock]⟩) (fun _ _ => rfl)⟩, ⟨below_set HB.out GE.out⟩⟩
          · have c124b0 : (bt a0 I == 124) = false := beq_eq_false_iff_ne.mpr d124
            by_cases d42 : bt a0 I = 42
            · have c42b0 : (bt a0 I == 42) = true := beq_iff_eq.mpr d42
              have HN := am_ d42
              clear d42
              have HS0 := am_ (show xs[((n : Int) - 1).toNat]? = some (Ai, m, ci) from by have h_ := HL.out.2.2.2.2.2.2.2.1; have h2_ := HL.out.2.1; rw [show ((n : Int) - 1).toNat = n - 1 from by omega]; exact h_)
              go_wp2_with (first | (go_at_call 86; refine (impl_put.calls (⟨0, false, true⟩ : S108) gb g n c m ((n : Int) - 1) xs Ai ci (nw.map altP) w _ HB.out rfl (by have := HL.out; omega) (by have := HL.out; omega) (by rw [List.length_map]; exact HL.out.2.2.2.2.1) (by have := HL.out; omega) BK.out (cut_cell3 HO.out HS0.out) HO.out HI.out).mono ?_; rintro e w20 ⟨⟨v20, rfl⟩, hb, hbk, Aj, cj, hO, hI2, hk2, ho2⟩; have n0_ := am_ hb; have n1_ := am_ hbk; have n2_ := am_ hO; have n3_ := am_ hI2; have n4_ := am_ (rows_put (j := ((n : Int) - 1).toNat) HS.out (by have := HL.out; rw [List.length_map]; omega) hk2 ho2); clear HB BK HO HI HS; have HB := n0_; have BK := n1_; have HO := n2_; have HI := n3_; have HS := n4_; clear n0_ n1_ n2_ n3_ n4_ hb hbk hO hI2 hk2 ho2))
              go_roundg (a0.size - (i + 1))
              case measure => have h1_ := HIq.out; have h2_ := HL.out; have h3_ := HIL.out; omega
              case rel => exact ⟨g, n, c, xs.set ((n : Int) - 1).toNat (Aj, m + 1, cj), Aj, m + 1, cj, o, nw ++ [-1], i + 1, (by first | rfl | (have h1_ := HIq.out; have h2_ := HL.out; have h3_ := HIL.out;  congr 1; unfold wrap64; omega)), ⟨by have h1_ := HIq.out; have h2_ := HL.out; have h3_ := HIL.out;  refine ⟨by rw [List.length_set]; omega, by omega, by omega, by omega, by rw [List.length_append, List.length_singleton]; omega, by omega, by omega, ?_, by omega, by omega⟩; rw [show ((n : Int) - 1).toNat = n - 1 from by omega]; exact List.getElem?_set_self (by omega)⟩, ⟨(altA_star (by have h1_ := HIq.out; have h3_ := HIL.out; omega) (by rw [HIq.out]; exact HN.out)).symm.trans HA.out⟩, BK, HNE, HO, ⟨by have h_ := HI.out; rw [← show altP (-1) = (⟨0, false, true⟩ : S108) from rfl, ← List.map_singleton, ← List.map_append] at h_; exact h_⟩, HS, HB⟩
            · have c42b0 : (bt a0 I == 42) = false := beq_eq_false_iff_ne.mpr d42
              by_cases d63 : bt a0 I = 63
              · have c63b0 : (bt a0 I == 63) = true := beq_iff_eq.mpr d63
                have HN := am_ d63
                clear d63
                have HS0 := am_ (show xs[((n : Int) - 1).toNat]? = some (Ai, m, ci) from by have h_ := HL.out.2.2.2.2.2.2.2.1; have h2_ := HL.out.2.1; rw [show ((n : Int) - 1).toNat = n - 1 from by omega]; exact h_)
                go_wp2_with (first | (go_at_call 86; refine (impl_put.calls (⟨0, true, false⟩ : S108) gb g n c m ((n : Int) - 1) xs Ai ci (nw.map altP) w _ HB.out rfl (by have := HL.out; omega) (by have := HL.out; omega) (by rw [List.length_map]; exact HL.out.2.2.2.2.1) (by have := HL.out; omega) BK.out (cut_cell3 HO.out HS0.out) HO.out HI.out).mono ?_; rintro e w20 ⟨⟨v20, rfl⟩, hb, hbk, Aj, cj, hO, hI2, hk2, ho2⟩; have n0_ := am_ hb; have n1_ := am_ hbk; have n2_ := am_ hO; have n3_ := am_ hI2; have n4_ := am_ (rows_put (j := ((n : Int) - 1).toNat) HS.out (by have := HL.out; rw [List.length_map]; omega) hk2 ho2); clear HB BK HO HI HS; have HB := n0_; have BK := n1_; have HO := n2_; have HI := n3_; have HS := n4_; clear n0_ n1_ n2_ n3_ n4_ hb hbk hO hI2 hk2 ho2))
                go_roundg (a0.size - (i + 1))
                case measure => have h1_ := HIq.out; have h2_ := HL.out; have h3_ := HIL.out; omega
                case rel => exact ⟨g, n, c, xs.set ((n : Int) - 1).toNat (Aj, m + 1, cj), Aj, m + 1, cj, o, nw ++ [-2], i + 1, (by first | rfl | (have h1_ := HIq.out; have h2_ := HL.out; have h3_ := HIL.out;  congr 1; unfold wrap64; omega)), ⟨by have h1_ := HIq.out; have h2_ := HL.out; have h3_ := HIL.out;  refine ⟨by rw [List.length_set]; omega, by omega, by omega, by omega, by rw [List.length_append, List.length_singleton]; omega, by omega, by omega, ?_, by omega, by omega⟩; rw [show ((n : Int) - 1).toNat = n - 1 from by omega]; exact List.getElem?_set_self (by omega)⟩, ⟨(altA_any (by have h1_ := HIq.out; have h3_ := HIL.out; omega) (by rw [HIq.out]; exact HN.out)).symm.trans HA.out⟩, BK, HNE, HO, ⟨by have h_ := HI.out; rw [← show altP (-2) = (⟨0, true, false⟩ : S108) from rfl, ← List.map_singleton, ← List.map_append] at h_; exact h_⟩, HS, HB⟩
              · have c63b0 : (bt a0 I == 63) = false := beq_eq_false_iff_ne.mpr d63
                by_cases d92 : bt a0 I = 92
                · have c92b0 : (bt a0 I == 92) = true := beq_iff_eq.mpr d92
                  have H92 := am_ (show bt a0 (i : Int) = 92 by rw [HIq.out]; exact d92)
                  obtain ⟨J, hJ⟩ : ∃ J : Int, I + 1 = J := ⟨_, rfl⟩
                  have hJw : IntKind.i64.wrap (I + 1) = J := by have h1_ := HIq.out; have h2_ := HL.out; rw [IntKind.wrap_i64]; omega
                  have hJv : wrap64 (I + 1) = J := by have h1_ := HIq.out; have h2_ := HL.out; unfold wrap64; omega
                  have HJ := am_ (show ((i + 1 : Nat) : Int) = J by have h1_ := HIq.out; omega)
                  clear d92 d124 d42 d63 hJ
                  by_cases e1 : J = (a0.size : Int)
                  · have e1b0 : (J == (a0.size : Int)) = true := beq_iff_eq.mpr e1
                    obtain ⟨rfl, rfl⟩ : qs = [] ∧ r2 = false := by have h := (altA_cut (by have h1_ := HIq.out; have h3_ := HIL.out; omega) H92.out (by have h1_ := HJ.out; omega)).symm.trans HA.out; simp only [Prod.mk.injEq] at h; exact ⟨h.1.symm, h.2.symm⟩
                    obtain rfl : r1 = [] := HQ.out.symm
                    clear e1
                    go_wp2
                    go_ret2
                    exact ⟨_, rf_, ni_, bl_⟩
                  · have e1b0 : (J == (a0.size : Int)) = false := beq_eq_false_iff_ne.mpr e1
                    have j1 : J < (a0.size : Int) := by have h1_ := HJ.out; have h2_ := HIL.out; have h3_ := HIq.out; omega
                    have j0 : 0 ≤ J := by have h1_ := HJ.out; omega
                    have HE := am_ ((altA_esc (s := a0) (i := i) (by have h1_ := HJ.out; omega) H92.out).symm.trans HA.out)
                    have HJL := am_ j1
                    have hx7 := bt_at a0 J
                    have p7 := eq_true j0
                    have q7 := eq_true j1
                    have hrg := bt_range a0 J
                    have h4q := four_of hrg.1 hrg.2
                    obtain ⟨Z, hZ⟩ : ∃ Z : Int, (Lib.indexByte (⟨#[42, 63, 124, 92]⟩ : ByteArray).data.toList (bt a0 J).toNat.toUInt8) = Z := ⟨_, rfl⟩
                    have HZZ := am_ (show strings_IndexByte.f (⟨#[42, 63, 124, 92]⟩ : ByteArray) (bt a0 J) = some Z from by unfold strings_IndexByte.f; rw [← hZ])
                    have h4z : decide (Z < 0) = !(okE (bt a0 J)) := by rw [← hZ]; exact h4q
                    clear j0 j1 e1 hrg h4q hZ
                    cases hk : okE (bt a0 J) with
                    | false =>
                      rw [hk] at h4z
                      have z0 : decide (Z < 0) = true := h4z
                      obtain ⟨rfl, rfl⟩ : qs = [] ∧ r2 = false := by have h := HE.out; rw [HJ.out, hk, if_neg (by decide)] at h; simp only [Prod.mk.injEq] at h; exact ⟨h.1.symm, h.2.symm⟩
                      obtain rfl : r1 = [] := HQ.out.symm
                      clear h4z hk
                      go_wp2_with (first | (go_at_call 87; refine (strings_IndexByte.calls (⟨#[42, 63, 124, 92]⟩ : ByteArray) (bt a0 J) Z _ HZZ.out).mono ?_; rintro e w' ⟨rfl, ⟨nd, rfl⟩⟩; replace BK := am_ (blk_drewN BK.out nd); replace HO := am_ (Kd.R_drewN HO.out nd); replace HI := am_ (Kd.R_drewN HI.out nd); replace HS := am_ (rows_drewN HS.out nd); replace HB := am_ (pw_below_drewN HB.out nd)))
                      go_ret2
                      exact ⟨_, rf_, ni_, bl_⟩
                    | true =>
                      rw [hk] at h4z
                      have z0 : decide (Z < 0) = false := h4z
                      have HK := am_ hk
                      clear h4z hk
                      have HS0 := am_ (show xs[((n : Int) - 1).toNat]? = some (Ai, m, ci) from by have h_ := HL.out.2.2.2.2.2.2.2.1; have h2_ := HL.out.2.1; rw [show ((n : Int) - 1).toNat = n - 1 from by omega]; exact h_)
                      go_wp2_with (first | (go_at_call 87; refine (strings_IndexByte.calls (⟨#[42, 63, 124, 92]⟩ : ByteArray) (bt a0 J) Z _ HZZ.out).mono ?_; rintro e w' ⟨rfl, ⟨nd, rfl⟩⟩; replace BK := am_ (blk_drewN BK.out nd); replace HO := am_ (Kd.R_drewN HO.out nd); replace HI := am_ (Kd.R_drewN HI.out nd); replace HS := am_ (rows_drewN HS.out nd); replace HB := am_ (pw_below_drewN HB.out nd)) | (go_at_call 86; refine (impl_put.calls (⟨bt a0 J, false, false⟩ : S108) gb g n c m ((n : Int) - 1) xs Ai ci (nw.map altP) w _ HB.out rfl (by have := HL.out; omega) (by have := HL.out; omega) (by rw [List.length_map]; exact HL.out.2.2.2.2.1) (by have := HL.out; omega) BK.out (cut_cell3 HO.out HS0.out) HO.out HI.out).mono ?_; rintro e w20 ⟨⟨v20, rfl⟩, hb, hbk, Aj, cj, hO, hI2, hk2, ho2⟩; have n0_ := am_ hb; have n1_ := am_ hbk; have n2_ := am_ hO; have n3_ := am_ hI2; have n4_ := am_ (rows_put (j := ((n : Int) - 1).toNat) HS.out (by have := HL.out; rw [List.length_map]; omega) hk2 ho2); clear HB BK HO HI HS; have HB := n0_; have BK := n1_; have HO := n2_; have HI := n3_; have HS := n4_; clear n0_ n1_ n2_ n3_ n4_ hb hbk hO hI2 hk2 ho2))
                      go_roundg (a0.size - (i + 2))
                      case measure => have h1_ := HIq.out; have h2_ := HL.out; have h3_ := HIL.out; omega
                      case rel => exact ⟨g, n, c, xs.set ((n : Int) - 1).toNat (Aj, m + 1, cj), Aj, m + 1, cj, o, nw ++ [bt a0 J], i + 2, (by first | rfl | (have h1_ := HIq.out; have h2_ := HL.out; have h3_ := HIL.out; have h4_ := HJ.out; have h5_ := HJL.out;  congr 1; unfold wrap64; omega)), ⟨by have h1_ := HIq.out; have h2_ := HL.out; have h3_ := HIL.out; have h4_ := HJ.out; have h5_ := HJL.out;  refine ⟨by rw [List.length_set]; omega, by omega, by omega, by omega, by rw [List.length_append, List.length_singleton]; omega, by omega, by omega, ?_, by omega, by omega⟩; rw [show ((n : Int) - 1).toNat = n - 1 from by omega]; exact List.getElem?_set_self (by omega)⟩, ⟨by have h := HE.out; rw [HJ.out, HK.out, if_pos rfl] at h; exact h⟩, BK, HNE, HO, ⟨by have h_ := HI.out; rw [← show altP (bt a0 J) = (⟨bt a0 J, false, false⟩ : S108) from altP_bt _ _, ← List.map_singleton, ← List.map_append] at h_; exact h_⟩, HS, HB⟩
                · have c92b0 : (bt a0 I == 92) = false := beq_eq_false_iff_ne.mpr d92
                  have HN := am_ (And.intro d124 (And.intro d42 (And.intro d63 d92)))
                  clear d92 d124 d42 d63
                  have HS0 := am_ (show xs[((n : Int) - 1).toNat]? = some (Ai, m, ci) from by have h_ := HL.out.2.2.2.2.2.2.2.1; have h2_ := HL.out.2.1; rw [show ((n : Int) - 1).toNat = n - 1 from by omega]; exact h_)
                  go_wp2_with (first | (go_at_call 86; refine (impl_put.calls (⟨bt a0 I, false, false⟩ : S108) gb g n c m ((n : Int) - 1) xs Ai ci (nw.map altP) w _ HB.out rfl (by have := HL.out; omega) (by have := HL.out; omega) (by rw [List.length_map]; exact HL.out.2.2.2.2.1) (by have := HL.out; omega) BK.out (cut_cell3 HO.out HS0.out) HO.out HI.out).mono ?_; rintro e w20 ⟨⟨v20, rfl⟩, hb, hbk, Aj, cj, hO, hI2, hk2, ho2⟩; have n0_ := am_ hb; have n1_ := am_ hbk; have n2_ := am_ hO; have n3_ := am_ hI2; have n4_ := am_ (rows_put (j := ((n : Int) - 1).toNat) HS.out (by have := HL.out; rw [List.length_map]; omega) hk2 ho2); clear HB BK HO HI HS; have HB := n0_; have BK := n1_; have HO := n2_; have HI := n3_; have HS := n4_; clear n0_ n1_ n2_ n3_ n4_ hb hbk hO hI2 hk2 ho2))
                  go_roundg (a0.size - (i + 1))
                  case measure => have h1_ := HIq.out; have h2_ := HL.out; have h3_ := HIL.out; omega
                  case rel => exact ⟨g, n, c, xs.set ((n : Int) - 1).toNat (Aj, m + 1, cj), Aj, m + 1, cj, o, nw ++ [bt a0 I], i + 1, (by first | rfl | (have h1_ := HIq.out; have h2_ := HL.out; have h3_ := HIL.out;  congr 1; unfold wrap64; omega)), ⟨by have h1_ := HIq.out; have h2_ := HL.out; have h3_ := HIL.out;  refine ⟨by rw [List.length_set]; omega, by omega, by omega, by omega, by rw [List.length_append, List.length_singleton]; omega, by omega, by omega, ?_, by omega, by omega⟩; rw [show ((n : Int) - 1).toNat = n - 1 from by omega]; exact List.getElem?_set_self (by omega)⟩, ⟨by rw [← HIq.out]; exact (altA_on (by have h1_ := HIq.out; have h3_ := HIL.out; omega) (by rw [HIq.out]; exact HN.out.1) (by rw [HIq.out]; exact HN.out.2.1) (by rw [HIq.out]; exact HN.out.2.2.1) (by rw [HIq.out]; exact HN.out.2.2.2)).symm.trans HA.out⟩, BK, HNE, HO, ⟨by have h_ := HI.out; rw [← show altP (bt a0 I) = (⟨bt a0 I, false, false⟩ : S108) from altP_bt _ _, ← List.map_singleton, ← List.map_append] at h_; exact h_⟩, HS, HB⟩
        · have c4b0 : decide (I < (a0.size : Int)) = false := decide_eq_false c4
          obtain ⟨rfl, rfl⟩ : qs = o ++ [nw] ∧ r2 = true := by have h := (altA_end (o := o) (nw := nw) (show ¬ i < a0.size by omega)).symm.trans HA.out; simp only [Prod.mk.injEq] at h; exact ⟨h.1.symm, h.2.symm⟩
          have HF := am_ (show Kd.S (Kd.slice 108 k108) 109 _ w.heap.size (fun _ => True) (.slice (some ⟨g, 0, none⟩) n c) r1 from by rw [← HQ.out, List.map_append, List.map_singleton]; exact rows_R (rows_snoc (ok := fun k => k ≠ g) rfl (rows_step HS.out (fun _ _ _ => rfl) (fun k_ hk _ => ⟨hk.2.1, hk.2.2⟩) (fun _ _ => rfl)) (by have h_ := HL.out.2.2.2.2.2.2.2.1; have h2_ := HL.out; rw [List.length_map, show o.length = n - 1 from by omega]; exact h_) (by rw [List.length_map]; exact HL.out.2.2.2.2.1) (Kd.R_mono HI.out (fun _ hk => hk.2))) (by have h2_ := HL.out; simp; omega) HO.out)
          clear c4 hI
          go_wp2
          go_ret2
          exact ⟨_, rf_, sq_ HF, bl_⟩
    · rw [if_neg hz] at h
      cases h

/-! ### impl_GoodPattern: function 63 -/
def impl_GoodPattern.f (k : Nat) (a0 : ByteArray) : Option (Bool) := (impl_alternatives.f k a0).bind fun bt1001 => (some bt1001.2)
theorem impl_GoodPattern.mono : ∀ a0 k, LeO (impl_GoodPattern.f k a0) (impl_GoodPattern.f (k + 1) a0) := by
 intro a0 k
 unfold impl_GoodPattern.f
 repeat' first
   | with_reducible first | exact impl_alternatives.mono _ _ | exact LeO.refl _ | exact LeO.none _ | refine LeO.ite ?_ ?_ | refine LeO.bind ?_ (fun _ => ?_)
   | exact impl_alternatives.mono _ _
   | exact LeO.none _
   | refine LeO.ite ?_ ?_
   | refine LeO.bind ?_ (fun _ => ?_)
set_option maxHeartbeats 8000000 in
set_option maxRecDepth 100000 in
theorem impl_GoodPattern.calls (k : Nat) (a0 : ByteArray) (r : Bool) (w : World) (h : impl_GoodPattern.f k a0 = some r) :
  Calls Tryd.prog 63 #[.string a0] w fun e w' => e = .returned (.bool r) ∧ Below w.heap.size w w' := by
 have HB := am_ (Below.refl w.heap.size w)
 have H : ((impl_alternatives.f k a0).bind fun bt1001 => (some bt1001.2)) = some r := h
 clear h
 replace H := Option.bind_eq_some_iff.mp H
 obtain ⟨⟨t1001, t1002⟩, A20, H⟩ := H
 replace H : (some t1002) = some r := H
 have A2 := am_ A20
 clear A20
 obtain rfl := Option.some.inj H
 go_enter Tryd.func63, Tryd.ntmps63
 go_wp2_with (first | ((with_reducible refine gate_callee (f := 80) rfl ?_); refine goesL_ (some 7) rfl rfl Tryd.func80 (by kernel_rfl) rfl #[.string a0] rfl ag_ ?_; (with_reducible refine (impl_alternatives.calls k a0 t1001 t1002 _ A2.out).mono ?_); rintro e w3 ⟨v1003, rfl, ho0, hb⟩; refine ⟨_, rfl, ?_⟩; have HO1004 := am_ (Kd.S_lower ho0 (below_size bl_)); replace HB := am_ (below_step bl_ hb); (try clear hb); (try clear hb2); (try clear hk); (try clear hi); (try clear ho0)))
 go_ret
 exact ⟨rf_, bl_⟩

/-! ### impl_quote: function 36 -/
def impl_quote.l0 : Nat → ByteArray → List Int → Int → Int → Option (ByteArray)
 | 0, _, _, _, _ => none
 | k + 1, x0, x3, x7, x8 => if x8 < x7 then (if 0 ≤ x8 then (if x8 < (x0.size : Int) then (if (bt x0 x8) = 34 then (if x3.length < 140737488355328 then ((some (x3 ++ [92] : List Int)).bind fun y1004 => (if y1004.length < 140737488355328 then (impl_quote.l0 k x0 (y1004 ++ [bt x0 x8]) x7 (wrap64 (x8 + 1))) else (none))) else (none)) else (if (bt x0 x8) = 92 then (if x3.length < 140737488355328 then ((some (x3 ++ [92] : List Int)).bind fun y1010 => (if y1010.length < 140737488355328 then (impl_quote.l0 k x0 (y1010 ++ [bt x0 x8]) x7 (wrap64 (x8 + 1))) else (none))) else (none)) else (if x3.length < 140737488355328 then (impl_quote.l0 k x0 (x3 ++ [bt x0 x8]) x7 (wrap64 (x8 + 1))) else (none)))) else (none)) else (none)) else (if x3.length < 140737488355328 then (some (strOfNums (x3 ++ [34]))) else (none))
def impl_quote.f (k : Nat) (a0 : ByteArray) : Option (ByteArray) := impl_quote.l0 k a0 (([34] : List Int)) (a0.size : Int) 0
theorem impl_quote.mono_l : ∀ k, (∀ y0 y1 y2 y3, LeO (impl_quote.l0 k y0 y1 y2 y3) (impl_quote.l0 (k + 1) y0 y1 y2 y3))
 | 0 => fun _ _ _ _ r h => by simp [impl_quote.l0] at h
 | k + 1 => by
  have ih0 := impl_quote.mono_l k
  ·intro y0 y1 y2 y3
   unfold impl_quote.l0
   repeat' first
   | with_reducible first | exact ih0 _ _ _ _ | exact LeO.refl _ | exact LeO.none _ | refine LeO.ite ?_ ?_ | refine LeO.bind ?_ (fun _ => ?_)
   | exact ih0 _ _ _ _
   | exact LeO.none _
   | refine LeO.ite ?_ ?_
   | refine LeO.bind ?_ (fun _ => ?_)
theorem impl_quote.mono : ∀ a0 k, LeO (impl_quote.f k a0) (impl_quote.f (k + 1) a0) := by
 intro a0 k
 have ih0 := impl_quote.mono_l k
 unfold impl_quote.f
 repeat' first
   | with_reducible first | exact ih0 _ _ _ _ | exact LeO.refl _ | exact LeO.none _ | refine LeO.ite ?_ ?_ | refine LeO.bind ?_ (fun _ => ?_)
   | exact ih0 _ _ _ _
   | exact LeO.none _
   | refine LeO.ite ?_ ?_
   | refine LeO.bind ?_ (fun _ => ?_)
set_option maxHeartbeats 8000000 in
set_option maxRecDepth 100000 in
theorem impl_quote.calls (k : Nat) (a0 : ByteArray) (r : ByteArray) (w : World) (h : impl_quote.f k a0 = some r) :
  Calls Tryd.prog 36 #[.string a0] w fun e w' => e = .returned (.string r) ∧ Below w.heap.size w w' := by
 have HB := am_ (Below.refl w.heap.size w)
 have H : (impl_quote.l0 k a0 (([34] : List Int)) (a0.size : Int) 0) = some r := h
 clear h
 obtain ⟨y1001, hy1001⟩ : ∃ y_ : List Int, y_ = (([34] : List Int)) := ⟨_, rfl⟩
 replace H : (impl_quote.l0 k a0 y1001 (a0.size : Int) 0) = some r := by first | (rw [hy1001]; with_reducible exact H) | (have H2_ := (Option.bind_some _ _).symm.trans H; rw [hy1001]; with_reducible exact H2_) | (have H2_ := (Option.bind_some _ _).symm.trans H; with_reducible exact H2_) | with_reducible exact H | (rw [hy1001]; exact H) | exact H
 have Ny1001 := am_ hy1001
 clear hy1001
 have H' := am_ H
 clear H
 go_enter Tryd.func36, Tryd.ntmps36
 go_wp2_with (first | ((with_reducible refine gate_dst (N := 5) rfl ?_); refine Kd.R_lit (Kd.int .u8) _ 5 ?hg (N := 5) ?hd (xs := ([34] : List Int)) (inner := [.int .u8 34]) (ok := fun _ => True) (okp := fun _ => True) ?hr ?hp (fun _ hk => hk) trivial (Below.refl _ _) (Nat.le_refl _) (by simp) ?_; (case hd => rfl); (case hg => rfl); (case hr => first | (go_simp; done) | (go_simp; rfl)); (case hp => exact (Reps.one (show Kd.M (Kd.int .u8) _ _ _ 34 [.int .u8 34] from rfl) (Reps.none _ _))); intro v1002 w2 ho3 hb hg_ hnew_; clear hg_ hnew_; (first | rw [← Ny1001.out] at ho3 | (simp only [Int.reduceToNat] at ho3; rw [← Ny1001.out] at ho3)); have HO1003 := am_ (Kd.R_lower ho3 (below_size bl_)); replace HB := am_ (below_step bl_ hb); clear hb ho3))
 go_loopg [3, 8] k (fun kq v3 v8 w' => ∃ (x3_1 : List Int) (x8_1 : Int), v8 = .int .i64 x8_1 ∧ Aside0 (impl_quote.l0 kq a0 x3_1 (a0.size : Int) x8_1 = some r) ∧ Aside0 (kq ≤ k) ∧ Aside0 (Kd.R (Kd.int .u8) 5 w' w.heap.size (fun _ => True) v3 x3_1) ∧ Aside0 (Below w.heap.size w w'))
 case atStart => exact ⟨(y1001), (0), rs_, H', ⟨Nat.le_refl _⟩, ⟨ro_ HO1003⟩, ⟨bl_⟩⟩
 case round =>
  clear H'
  try clear p2
  try clear c3
  obtain ⟨x3_1, x8_1, rfl, HA, HK1, HO_3, HB⟩ := hrel
  cases gk with
  | zero => exact absurd HA.out (by simp [impl_quote.l0])
  | succ k1 =>
   have H := HA.out
   clear HA
   simp only [impl_quote.l0] at H
   by_cases c4 : x8_1 < (a0.size : Int)
   ·rw [if_pos c4] at H
    have c4b0 : decide (x8_1 < (a0.size : Int)) = true := decide_eq_true c4
    clear c4
    by_cases c5 : 0 ≤ x8_1
    ·rw [if_pos c5] at H
     have c5b0 : decide (0 ≤ x8_1) = true := decide_eq_true c5
     clear c5
     by_cases c6 : x8_1 < (a0.size : Int)
     ·rw [if_pos c6] at H
      have c6b0 : decide (x8_1 < (a0.size : Int)) = true := decide_eq_true c6
      clear c6
      by_cases c8 : (bt a0 x8_1) = 34
      ·rw [if_pos c8] at H
       have c8b0 : ((bt a0 x8_1) == 34) = true := beq_iff_eq.mpr c8
       have c8b1 : ((bt a0 x8_1) != 34) = false := bne_eq_false_iff_eq.mpr c8
       clear c8
       by_cases c9 : x3_1.length < 140737488355328
       ·rw [if_pos c9] at H
        have LMc9 := am_ c9
        clear c9
        obtain ⟨y1004, hy1004⟩ : ∃ y_ : List Int, y_ = (x3_1 ++ [92]) := ⟨_, rfl⟩
        replace H : (if y1004.length < 140737488355328 then (impl_quote.l0 k1 a0 (y1004 ++ [bt a0 x8_1]) (a0.size : Int) (wrap64 (x8_1 + 1))) else (none)) = some r := by first | (rw [hy1004]; with_reducible exact H) | (have H2_ := (Option.bind_some _ _).symm.trans H; rw [hy1004]; with_reducible exact H2_) | (have H2_ := (Option.bind_some _ _).symm.trans H; with_reducible exact H2_) | with_reducible exact H | (rw [hy1004]; exact H) | exact H
        have Ny1004 := am_ hy1004
        clear hy1004
        by_cases c11 : y1004.length < 140737488355328
        ·rw [if_pos c11] at H
         have LMc11 := am_ c11
         clear c11
         obtain ⟨y1007, hy1007⟩ : ∃ y_ : List Int, y_ = (y1004 ++ [bt a0 x8_1]) := ⟨_, rfl⟩
         replace H : (impl_quote.l0 k1 a0 y1007 (a0.size : Int) (wrap64 (x8_1 + 1))) = some r := by first | (rw [hy1007]; with_reducible exact H) | (have H2_ := (Option.bind_some _ _).symm.trans H; rw [hy1007]; with_reducible exact H2_) | (have H2_ := (Option.bind_some _ _).symm.trans H; with_reducible exact H2_) | with_reducible exact H | (rw [hy1007]; exact H) | exact H
         have Ny1007 := am_ hy1007
         clear hy1007
         have H' := am_ H
         clear H
         have p7 : 0 ≤ (x8_1 : Int) := od_
         have q7 : x8_1 < (a0.size : Int) := od_
         have hx7 := bt_at a0 x8_1
         replace p7 := eq_true p7
         replace q7 := eq_true q7
         go_wp2_with (first | ((with_reducible refine gate_builtin (b := .append) (xs := #[.tmp 21, .tmp 22]) rfl ?_); at_builtin; refine Kd.R_append (Kd.int .u8) (w0 := w) w.heap.size rfl (.tmp 21) (.tmp 22) 67 5 (.int .u8 0) 1 rfl Tryd.underlying67 info5 rfl (by decide) (by omega) u3 x3_1 92 [.int .u8 92] (fun _ => True) (fun _ => False) rfl rfl ?aP (fun _ hk => hk.elim) ?aF ?aO ?aB ?aS ?aL ?_; (case aP => exact rfl); (case aB => exact bl_); (case aF => exact (fun _ _ => trivial)); (case aO => exact (ro_ HO_3)); (case aS => exact (below_size bl_)); (case aL => have := LMc9.out; omega); intro v1005 w12 ho hb hg hat; rw [← Ny1004.out] at ho; have n0_ := am_ (hb); have n1_ := am_ (ho); clear HB; clear HO_3; have HB := n0_; have HO1006 := n1_; clear n0_ n1_; clear ho hb hg hat; have p10 : 0 ≤ (x8_1 : Int) := od_; have q10 : x8_1 < (a0.size : Int) := od_; have hx10 := bt_at a0 x8_1; replace p10 := eq_true p10; replace q10 := eq_true q10) | ((with_reducible refine gate_builtin (b := .append) (xs := #[.tmp 24, .tmp 28]) rfl ?_); at_builtin; refine Kd.R_append (Kd.int .u8) (w0 := w) w.heap.size rfl (.tmp 24) (.tmp 28) 67 5 (.int .u8 0) 1 rfl Tryd.underlying67 info5 rfl (by decide) (by omega) v1005 y1004 (bt a0 x8_1) [.int .u8 (bt a0 x8_1)] (fun _ => True) (fun _ => False) rfl rfl ?aP (fun _ hk => hk.elim) ?aF ?aO ?aB ?aS ?aL ?_; (case aP => exact rfl); (case aB => exact bl_); (case aF => exact (fun _ _ => trivial)); (case aO => exact (ro_ HO1006)); (case aS => exact (below_size bl_)); (case aL => have := LMc11.out; omega); intro v1008 w13 ho hb hg hat; rw [← Ny1007.out] at ho; have n0_ := am_ (hb); have n1_ := am_ (ho); clear HB; clear HO1006; have HB := n0_; have HO1009 := n1_; clear n0_ n1_; clear ho hb hg hat))
         go_roundg k1
         case measure => have := HK1.out; omega
         case rel => exact ⟨(y1007), (wrap64 (x8_1 + 1)), rs_, H', ⟨by have := HK1.out; omega⟩, ⟨ro_ HO1009⟩, ⟨bl_⟩⟩
        ·rw [if_neg c11] at H
         exact absurd H (by simp)
       ·rw [if_neg c9] at H
        exact absurd H (by simp)
      ·rw [if_neg c8] at H
       have c8b0 : ((bt a0 x8_1) == 34) = false := beq_eq_false_iff_ne.mpr c8
       have c8b1 : ((bt a0 x8_1) != 34) = true := bne_iff_ne.mpr c8
       by_cases c15 : (bt a0 x8_1) = 92
       ·rw [if_pos c15] at H
        have c15b0 : ((bt a0 x8_1) == 92) = true := beq_iff_eq.mpr c15
        have c15b1 : ((bt a0 x8_1) != 92) = false := bne_eq_false_iff_eq.mpr c15
        clear c15
        by_cases c16 : x3_1.length < 140737488355328
        ·rw [if_pos c16] at H
         have LMc16 := am_ c16
         clear c16
         obtain ⟨y1010, hy1010⟩ : ∃ y_ : List Int, y_ = (x3_1 ++ [92]) := ⟨_, rfl⟩
         replace H : (if y1010.length < 140737488355328 then (impl_quote.l0 k1 a0 (y1010 ++ [bt a0 x8_1]) (a0.size : Int) (wrap64 (x8_1 + 1))) else (none)) = some r := by first | (rw [hy1010]; with_reducible exact H) | (have H2_ := (Option.bind_some _ _).symm.trans H; rw [hy1010]; with_reducible exact H2_) | (have H2_ := (Option.bind_some _ _).symm.trans H; with_reducible exact H2_) | with_reducible exact H | (rw [hy1010]; exact H) | exact H
         have Ny1010 := am_ hy1010
         clear hy1010
         by_cases c18 : y1010.length < 140737488355328
         ·rw [if_pos c18] at H
          have LMc18 := am_ c18
          clear c18
          obtain ⟨y1013, hy1013⟩ : ∃ y_ : List Int, y_ = (y1010 ++ [bt a0 x8_1]) := ⟨_, rfl⟩
          replace H : (impl_quote.l0 k1 a0 y1013 (a0.size : Int) (wrap64 (x8_1 + 1))) = some r := by first | (rw [hy1013]; with_reducible exact H) | (have H2_ := (Option.bind_some _ _).symm.trans H; rw [hy1013]; with_reducible exact H2_) | (have H2_ := (Option.bind_some _ _).symm.trans H; with_reducible exact H2_) | with_reducible exact H | (rw [hy1013]; exact H) | exact H
          have Ny1013 := am_ hy1013
          clear hy1013
          have H' := am_ H
          clear H
          have p7 : 0 ≤ (x8_1 : Int) := od_
          have q7 : x8_1 < (a0.size : Int) := od_
          have hx7 := bt_at a0 x8_1
          replace p7 := eq_true p7
          replace q7 := eq_true q7
          have p14 : 0 ≤ (x8_1 : Int) := od_
          have q14 : x8_1 < (a0.size : Int) := od_
          have hx14 := bt_at a0 x8_1
          replace p14 := eq_true p14
          replace q14 := eq_true q14
          go_wp2_with (first | ((with_reducible refine gate_builtin (b := .append) (xs := #[.tmp 21, .tmp 22]) rfl ?_); at_builtin; refine Kd.R_append (Kd.int .u8) (w0 := w) w.heap.size rfl (.tmp 21) (.tmp 22) 67 5 (.int .u8 0) 1 rfl Tryd.underlying67 info5 rfl (by decide) (by omega) u3 x3_1 92 [.int .u8 92] (fun _ => True) (fun _ => False) rfl rfl ?aP (fun _ hk => hk.elim) ?aF ?aO ?aB ?aS ?aL ?_; (case aP => exact rfl); (case aB => exact bl_); (case aF => exact (fun _ _ => trivial)); (case aO => exact (ro_ HO_3)); (case aS => exact (below_size bl_)); (case aL => have := LMc16.out; omega); intro v1011 w19 ho hb hg hat; rw [← Ny1010.out] at ho; have n0_ := am_ (hb); have n1_ := am_ (ho); clear HB; clear HO_3; have HB := n0_; have HO1012 := n1_; clear n0_ n1_; clear ho hb hg hat; have p17 : 0 ≤ (x8_1 : Int) := od_; have q17 : x8_1 < (a0.size : Int) := od_; have hx17 := bt_at a0 x8_1; replace p17 := eq_true p17; replace q17 := eq_true q17) | ((with_reducible refine gate_builtin (b := .append) (xs := #[.tmp 24, .tmp 28]) rfl ?_); at_builtin; refine Kd.R_append (Kd.int .u8) (w0 := w) w.heap.size rfl (.tmp 24) (.tmp 28) 67 5 (.int .u8 0) 1 rfl Tryd.underlying67 info5 rfl (by decide) (by omega) v1011 y1010 (bt a0 x8_1) [.int .u8 (bt a0 x8_1)] (fun _ => True) (fun _ => False) rfl rfl ?aP (fun _ hk => hk.elim) ?aF ?aO ?aB ?aS ?aL ?_; (case aP => exact rfl); (case aB => exact bl_); (case aF => exact (fun _ _ => trivial)); (case aO => exact (ro_ HO1012)); (case aS => exact (below_size bl_)); (case aL => have := LMc18.out; omega); intro v1014 w20 ho hb hg hat; rw [← Ny1013.out] at ho; have n0_ := am_ (hb); have n1_ := am_ (ho); clear HB; clear HO1012; have HB := n0_; have HO1015 := n1_; clear n0_ n1_; clear ho hb hg hat))
          go_roundg k1
          case measure => have := HK1.out; omega
          case rel => exact ⟨(y1013), (wrap64 (x8_1 + 1)), rs_, H', ⟨by have := HK1.out; omega⟩, ⟨ro_ HO1015⟩, ⟨bl_⟩⟩
         ·rw [if_neg c18] at H
          exact absurd H (by simp)
        ·rw [if_neg c16] at H
         exact absurd H (by simp)
       ·rw [if_neg c15] at H
        have c15b0 : ((bt a0 x8_1) == 92) = false := beq_eq_false_iff_ne.mpr c15
        have c15b1 : ((bt a0 x8_1) != 92) = true := bne_iff_ne.mpr c15
        by_cases c22 : x3_1.length < 140737488355328
        ·rw [if_pos c22] at H
         have LMc22 := am_ c22
         clear c22
         obtain ⟨y1016, hy1016⟩ : ∃ y_ : List Int, y_ = (x3_1 ++ [bt a0 x8_1]) := ⟨_, rfl⟩
         replace H : (impl_quote.l0 k1 a0 y1016 (a0.size : Int) (wrap64 (x8_1 + 1))) = some r := by first | (rw [hy1016]; with_reducible exact H) | (have H2_ := (Option.bind_some _ _).symm.trans H; rw [hy1016]; with_reducible exact H2_) | (have H2_ := (Option.bind_some _ _).symm.trans H; with_reducible exact H2_) | with_reducible exact H | (rw [hy1016]; exact H) | exact H
         have Ny1016 := am_ hy1016
         clear hy1016
         have H' := am_ H
         clear H
         have p7 : 0 ≤ (x8_1 : Int) := od_
         have q7 : x8_1 < (a0.size : Int) := od_
         have hx7 := bt_at a0 x8_1
         replace p7 := eq_true p7
         replace q7 := eq_true q7
         have p14 : 0 ≤ (x8_1 : Int) := od_
         have q14 : x8_1 < (a0.size : Int) := od_
         have hx14 := bt_at a0 x8_1
         replace p14 := eq_true p14
         replace q14 := eq_true q14
         have p21 : 0 ≤ (x8_1 : Int) := od_
         have q21 : x8_1 < (a0.size : Int) := od_
         have hx21 := bt_at a0 x8_1
         replace p21 := eq_true p21
         replace q21 := eq_true q21
         go_wp2_with (first | ((with_reducible refine gate_builtin (b := .append) (xs := #[.tmp 24, .tmp 28]) rfl ?_); at_builtin; refine Kd.R_append (Kd.int .u8) (w0 := w) w.heap.size rfl (.tmp 24) (.tmp 28) 67 5 (.int .u8 0) 1 rfl Tryd.underlying67 info5 rfl (by decide) (by omega) u3 x3_1 (bt a0 x8_1) [.int .u8 (bt a0 x8_1)] (fun _ => True) (fun _ => False) rfl rfl ?aP (fun _ hk => hk.elim) ?aF ?aO ?aB ?aS ?aL ?_; (case aP => exact rfl); (case aB => exact bl_); (case aF => exact (fun _ _ => trivial)); (case aO => exact (ro_ HO_3)); (case aS => exact (below_size bl_)); (case aL => have := LMc22.out; omega); intro v1017 w23 ho hb hg hat; rw [← Ny1016.out] at ho; have n0_ := am_ (hb); have n1_ := am_ (ho); clear HB; clear HO_3; have HB := n0_; have HO1018 := n1_; clear n0_ n1_; clear ho hb hg hat))
         go_roundg k1
         case measure => have := HK1.out; omega
         case rel => exact ⟨(y1016), (wrap64 (x8_1 + 1)), rs_, H', ⟨by have := HK1.out; omega⟩, ⟨ro_ HO1018⟩, ⟨bl_⟩⟩
        ·rw [if_neg c22] at H
         exact absurd H (by simp)
     ·rw [if_neg c6] at H
      exact absurd H (by simp)
    ·rw [if_neg c5] at H
     exact absurd H (by simp)
   ·rw [if_neg c4] at H
    have c4b0 : decide (x8_1 < (a0.size : Int)) = false := decide_eq_false c4
    clear c4
    by_cases c24 : x3_1.length < 140737488355328
    ·rw [if_pos c24] at H
     have LMc24 := am_ c24
     clear c24
     obtain ⟨y1019, hy1019⟩ : ∃ y_ : List Int, y_ = (x3_1 ++ [34]) := ⟨_, rfl⟩
     replace H : (some (strOfNums y1019)) = some r := by first | (rw [hy1019]; with_reducible exact H) | (have H2_ := (Option.bind_some _ _).symm.trans H; rw [hy1019]; with_reducible exact H2_) | (have H2_ := (Option.bind_some _ _).symm.trans H; with_reducible exact H2_) | with_reducible exact H | (rw [hy1019]; exact H) | exact H
     have Ny1019 := am_ hy1019
     clear hy1019
     obtain rfl := Option.some.inj H
     go_wp2_with (first | ((with_reducible refine gate_builtin (b := .append) (xs := #[.tmp 31, .tmp 32]) rfl ?_); at_builtin; refine Kd.R_append (Kd.int .u8) (w0 := w) w.heap.size rfl (.tmp 31) (.tmp 32) 67 5 (.int .u8 0) 1 rfl Tryd.underlying67 info5 rfl (by decide) (by omega) u3 x3_1 34 [.int .u8 34] (fun _ => True) (fun _ => False) rfl rfl ?aP (fun _ hk => hk.elim) ?aF ?aO ?aB ?aS ?aL ?_; (case aP => exact rfl); (case aB => exact bl_); (case aF => exact (fun _ _ => trivial)); (case aO => exact (ro_ HO_3)); (case aS => exact (below_size bl_)); (case aL => have := LMc24.out; omega); intro v1020 w25 ho hb hg hat; rw [← Ny1019.out] at ho; have n0_ := am_ (hb); have n1_ := am_ (ho); clear HB; clear HO_3; have HB := n0_; have HO1021 := n1_; clear n0_ n1_; clear ho hb hg hat; have hcv26 := own_string (P := Tryd.prog) Tryd.underlying67 Tryd.underlying5 Tryd.underlying9 (Kd.own_of_R HO1021.out)))
     go_ret
     exact ⟨rf_, bl_⟩
    ·rw [if_neg c24] at H
     exact absurd H (by simp)

/-! ### strings_Join: function 26 -/
def strings_Join.f (l0 : List (ByteArray)) (a1 : ByteArray) : Option (ByteArray) := if l0.length ≤ 140737488355328 ∧ (Lib.join (l0.map (·.data.toList)) a1.data.toList).length ≤ 140737488355328 then some ⟨(Lib.join (l0.map (·.data.toList)) a1.data.toList).toArray⟩ else none
theorem strings_Join.calls (A0 : Option Addr) (c0 : Nat) (l0 : List (ByteArray)) (a1 : ByteArray) (r : ByteArray) (w : World) (hr0 : Kd.C (Kd.string) w A0 l0.length l0) (hc0 : l0.length ≤ c0) (h : strings_Join.f l0 a1 = some r) :
  Calls Tryd.prog 26 #[.slice A0 l0.length c0, .string a1] w fun e w' => e = .returned (.string r) ∧ Below w.heap.size w w' := by
 unfold strings_Join.f at h
 split at h
 ·rename_i hl
  obtain rfl := Option.some.inj h
  rcases Nat.eq_zero_or_pos l0.length with h0 | h0
  ·obtain rfl := List.eq_nil_of_length_eq_zero h0
   exact (Tryd.strings_Join_none A0 c0 a1 w).mono (fun e w' hp => ⟨hp.1, by rw [hp.2]; exact Below.refl _ _⟩)
  ·obtain ⟨⟨b, o, s⟩, rfl, h1⟩ := Kd.at_string hr0 0 (by omega) (by omega)
   have hs : s = none := by
    have h2 : w.cell? ⟨b, o, s⟩ = some (.string (rdOf ByteArray.empty l0 0)) := h1
    unfold World.cell? at h2
    split at h2
    ·split at h2
     ·cases h2
     ·rename_i h3; simpa using h3
    ·cases h2
   subst hs
   have hcell : ∀ (j : Nat) x, l0[j]? = some x → w.cell? ⟨b, o + j, none⟩ = some (.string x) := by
    intro j x hx
    obtain ⟨hj, hx⟩ := List.getElem?_eq_some_iff.1 hx
    obtain ⟨ad', e', h4⟩ := Kd.at_string hr0 (j : Int) (by omega) (by omega)
    cases e'
    rw [show rdOf ByteArray.empty l0 (j : Int) = x from by unfold rdOf; simp [hj, hx], Int.toNat_natCast] at h4
    rw [← h4]
    unfold Addr.add
    by_cases hj0 : j = 0
    ·subst hj0; rfl
    ·rw [if_neg hj0]
   exact (Tryd.strings_Join b o c0 l0 a1 w hcell (World.block_lt_of_cell? w ⟨b, o + 0, none⟩ (hcell 0 _ (List.getElem?_eq_getElem h0))) hl.1 hc0 hl.2).mono (fun e w' hp => hp)
 ·cases h

end Go.Proofs.YtknlgignjbghkaaDoor.Pr
