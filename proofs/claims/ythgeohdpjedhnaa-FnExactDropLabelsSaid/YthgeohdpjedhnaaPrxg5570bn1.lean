/- Functions of the given program as plain Lean functions, and that the machine's calls come to them; written by a program of this session; no condition but those that each theorem states. -/
import Derived.Test.YthgeohdpjedhnaaPrx0
import Derived.Test.YthgeohdpjedhnaaPrxg47566n1
import Derived.Test.YthgeohdpjedhnaaPrxg798f8n1
namespace Go.Proofs.Ythgeohdpjedhnaa.Pr
open Go.RowKit Go.Proofs.YthgeohdpjedhnaaW.PrintWords Go.Proofs.YthgeohdpjedhnaaW.PrintLast Go.Proofs.YthgeohdpjedhnaaW.PrintMore
attribute [local go_sem] max2_int min2_int max_two min_two max_three min_three max_four min_four   -- for this text's walks alone
set_option linter.unusedVariables false
set_option linter.unusedSimpArgs false

/-! ### spec_l2Value: function 66 -/
def spec_l2Value.f (k : Nat) (a0 : ByteArray) : Option (Bool) := if (a0.size : Int) ≥ 1 then (if (a0.size : Int) ≤ 100 then ((spec_l2Printed.f k a0).bind fun t1001 => (some t1001)) else (some false)) else (some false)
theorem spec_l2Value.mono : ∀ a0 k, LeO (spec_l2Value.f k a0) (spec_l2Value.f (k + 1) a0) := by
 intro a0 k
 unfold spec_l2Value.f
 repeat' first
   | with_reducible first | exact spec_l2Printed.mono _ _ | exact LeO.refl _ | exact LeO.none _ | refine LeO.ite ?_ ?_ | refine LeO.bind ?_ (fun _ => ?_)
   | exact spec_l2Printed.mono _ _
   | exact LeO.none _
   | refine LeO.ite ?_ ?_
   | refine LeO.bind ?_ (fun _ => ?_)
set_option maxHeartbeats 8000000 in
set_option maxRecDepth 100000 in
theorem spec_l2Value.calls (k : Nat) (a0 : ByteArray) (r : Bool) (w : World) (h : spec_l2Value.f k a0 = some r) :
  Calls Try.prog 66 #[.string a0] w fun e w' => e = .returned (.bool r) ∧ Drawn0 w w' := by
 have H : (if (a0.size : Int) ≥ 1 then (if (a0.size : Int) ≤ 100 then ((spec_l2Printed.f k a0).bind fun t1001 => (some t1001)) else (some false)) else (some false)) = some r := h
 clear h
 by_cases c2 : (a0.size : Int) ≥ 1
 ·rw [if_pos c2] at H
  have c2b0 : decide (1 ≤ (a0.size : Int)) = true := decide_eq_true c2
  have c2b1 : decide (1 ≤ a0.size) = true := decide_eq_true (by omega)
  clear c2
  by_cases c3 : (a0.size : Int) ≤ 100
  ·rw [if_pos c3] at H
   have c3b0 : decide ((a0.size : Int) ≤ 100) = true := decide_eq_true c3
   have c3b1 : decide (a0.size ≤ 100) = true := decide_eq_true (by omega)
   clear c3
   replace H := Option.bind_eq_some_iff.mp H
   obtain ⟨t1001, A40, H⟩ := H
   replace H : (some t1001) = some r := H
   have A4 := am_ A40
   clear A40
   obtain rfl := Option.some.inj H
   go_enter Try.func66, Try.ntmps66
   go_wp2_with (first | (go_at_call 82; (with_reducible refine (spec_l2Printed.calls k a0 t1001 _ A4.out).mono ?_); rintro e w' ⟨rfl, ⟨nd, rfl⟩⟩))
   go_ret
   exact ⟨by first | rfl | (simp; done) | (simp [*]; done), by repeat (first | exact Drawn0.refl _ | apply Drawn0.step)⟩
  ·rw [if_neg c3] at H
   have c3b0 : decide ((a0.size : Int) ≤ 100) = false := decide_eq_false c3
   have c3b1 : decide (a0.size ≤ 100) = false := decide_eq_false (by omega)
   clear c3
   obtain rfl := Option.some.inj H
   go_enter Try.func66, Try.ntmps66
   go_wp2
   go_ret
   exact ⟨by first | rfl | (simp; done) | (simp [*]; done), by repeat (first | exact Drawn0.refl _ | apply Drawn0.step)⟩
 ·rw [if_neg c2] at H
  have c2b0 : decide (1 ≤ (a0.size : Int)) = false := decide_eq_false c2
  have c2b1 : decide (1 ≤ a0.size) = false := decide_eq_false (by omega)
  clear c2
  obtain rfl := Option.some.inj H
  go_enter Try.func66, Try.ntmps66
  go_wp2
  go_ret
  exact ⟨by first | rfl | (simp; done) | (simp [*]; done), by repeat (first | exact Drawn0.refl _ | apply Drawn0.step)⟩

/-! ### spec_l2CmpNum: function 133 -/
def spec_l2CmpNum.f (a0 : Int) (a1 : Int) : Option (Int) := if a0 < a1 then (some (-1)) else (if a0 > a1 then (some 1) else (some 0))
set_option maxHeartbeats 8000000 in
set_option maxRecDepth 100000 in
theorem spec_l2CmpNum.calls (a0 : Int) (a1 : Int) (r : Int) (w : World) (h : spec_l2CmpNum.f a0 a1 = some r) :
  Calls Try.prog 133 #[.int .i64 a0, .int .i64 a1] w fun e w' => e = .returned (.int .i64 r) ∧ Drawn0 w w' := by
 have H : (if a0 < a1 then (some (-1)) else (if a0 > a1 then (some 1) else (some 0))) = some r := h
 clear h
 by_cases c3 : a0 < a1
 ·rw [if_pos c3] at H
  have c3b0 : decide (a0 < a1) = true := decide_eq_true c3
  clear c3
  obtain rfl := Option.some.inj H
  go_enter Try.func133, Try.ntmps133
  go_wp2
  go_ret
  exact ⟨by first | rfl | (simp; done) | (simp [*]; done), by repeat (first | exact Drawn0.refl _ | apply Drawn0.step)⟩
 ·rw [if_neg c3] at H
  have c3b0 : decide (a0 < a1) = false := decide_eq_false c3
  clear c3
  by_cases c4 : a0 > a1
  ·rw [if_pos c4] at H
   have c4b0 : decide (a1 < a0) = true := decide_eq_true c4
   clear c4
   obtain rfl := Option.some.inj H
   go_enter Try.func133, Try.ntmps133
   go_wp2
   go_ret
   exact ⟨by first | rfl | (simp; done) | (simp [*]; done), by repeat (first | exact Drawn0.refl _ | apply Drawn0.step)⟩
  ·rw [if_neg c4] at H
   have c4b0 : decide (a1 < a0) = false := decide_eq_false c4
   clear c4
   obtain rfl := Option.some.inj H
   go_enter Try.func133, Try.ntmps133
   go_wp2
   go_ret
   exact ⟨by first | rfl | (simp; done) | (simp [*]; done), by repeat (first | exact Drawn0.refl _ | apply Drawn0.step)⟩

/-! ### spec_l2CmpText: function 115 -/
mutual
def spec_l2CmpText.l0 : Nat → ByteArray → ByteArray → Int → Option (Int)
 | 0, _, _, _ => none
 | k + 1, x0, x1, x5 => if x5 < (x0.size : Int) then (spec_l2CmpText.j1 k x0 x1 x5 (decide (x5 < (x1.size : Int)))) else (spec_l2CmpText.j1 k x0 x1 x5 false)
def spec_l2CmpText.j1 : Nat → ByteArray → ByteArray → Int → Bool → Option (Int)
 | 0, _, _, _, _ => none
 | k + 1, x0, x1, x5, x15 => if x15 = true then (if 0 ≤ x5 then (if x5 < (x0.size : Int) then (if x5 < (x1.size : Int) then (if (bt x0 x5) = (bt x1 x5) then (spec_l2CmpText.l0 k x0 x1 (wrap64 (x5 + 1))) else ((spec_l2CmpNum.f (wrap64 (bt x0 x5)) (wrap64 (bt x1 x5))).bind fun t1001 => (some t1001))) else (none)) else (none)) else (none)) else ((spec_l2CmpNum.f (x0.size : Int) (x1.size : Int)).bind fun t1002 => (some t1002))
end
def spec_l2CmpText.f (k : Nat) (a0 : ByteArray) (a1 : ByteArray) : Option (Int) := spec_l2CmpText.l0 k a0 a1 0
theorem spec_l2CmpText.mono_l : ∀ k, (∀ y0 y1 y2, LeO (spec_l2CmpText.l0 k y0 y1 y2) (spec_l2CmpText.l0 (k + 1) y0 y1 y2)) ∧ (∀ y0 y1 y2 y3, LeO (spec_l2CmpText.j1 k y0 y1 y2 y3) (spec_l2CmpText.j1 (k + 1) y0 y1 y2 y3))
 | 0 => ⟨fun _ _ _ r h => by simp [spec_l2CmpText.l0] at h, fun _ _ _ _ r h => by simp [spec_l2CmpText.j1] at h⟩
 | k + 1 => by
  obtain ⟨ih0, ih1⟩ := spec_l2CmpText.mono_l k
  refine ⟨?_, ?_⟩
  ·intro y0 y1 y2
   unfold spec_l2CmpText.l0
   repeat' first
   | with_reducible first | exact ih0 _ _ _ | exact ih1 _ _ _ _ | exact LeO.refl _ | exact LeO.none _ | refine LeO.ite ?_ ?_ | refine LeO.bind ?_ (fun _ => ?_)
   | exact ih0 _ _ _
   | exact ih1 _ _ _ _
   | exact LeO.none _
   | refine LeO.ite ?_ ?_
   | refine LeO.bind ?_ (fun _ => ?_)
  ·intro y0 y1 y2 y3
   unfold spec_l2CmpText.j1
   repeat' first
   | with_reducible first | exact ih0 _ _ _ | exact ih1 _ _ _ _ | exact LeO.refl _ | exact LeO.none _ | refine LeO.ite ?_ ?_ | refine LeO.bind ?_ (fun _ => ?_)
   | exact ih0 _ _ _
   | exact ih1 _ _ _ _
   | exact LeO.none _
   | refine LeO.ite ?_ ?_
   | refine LeO.bind ?_ (fun _ => ?_)
theorem spec_l2CmpText.mono : ∀ a0 a1 k, LeO (spec_l2CmpText.f k a0 a1) (spec_l2CmpText.f (k + 1) a0 a1) := by
 intro a0 a1 k
 obtain ⟨ih0, ih1⟩ := spec_l2CmpText.mono_l k
 unfold spec_l2CmpText.f
 repeat' first
   | with_reducible first | exact ih0 _ _ _ | exact ih1 _ _ _ _ | exact LeO.refl _ | exact LeO.none _ | refine LeO.ite ?_ ?_ | refine LeO.bind ?_ (fun _ => ?_)
   | exact ih0 _ _ _
   | exact ih1 _ _ _ _
   | exact LeO.none _
   | refine LeO.ite ?_ ?_
   | refine LeO.bind ?_ (fun _ => ?_)
set_option maxHeartbeats 8000000 in
set_option maxRecDepth 100000 in
theorem spec_l2CmpText.calls (k : Nat) (a0 : ByteArray) (a1 : ByteArray) (r : Int) (w : World) (h : spec_l2CmpText.f k a0 a1 = some r) :
  Calls Try.prog 115 #[.string a0, .string a1] w fun e w' => e = .returned (.int .i64 r) ∧ Drawn0 w w' := by
 have H : (spec_l2CmpText.l0 k a0 a1 0) = some r := h
 clear h
 have H' := am_ H
 clear H
 go_enter Try.func115, Try.ntmps115
 go_wp2
 repeat (go_quiet (fail); try go_wp2)
 go_loopg [5] k (fun kq v5 w' => ∃ (x5_1 : Int), v5 = .int .i64 x5_1 ∧ Aside0 (spec_l2CmpText.l0 kq a0 a1 x5_1 = some r) ∧ Aside0 (kq ≤ k) ∧ Drawn0 w w')
 case atStart => exact ⟨(0), rs_, H', ⟨Nat.le_refl _⟩, by repeat (first | exact Drawn0.refl _ | apply Drawn0.step)⟩
 case round =>
  clear H'
  try clear c1
  try clear p2
  obtain ⟨x5_1, rfl, HA, HK1, ⟨m1, rfl⟩⟩ := hrel
  cases gk with
  | zero => exact absurd HA.out (by simp [spec_l2CmpText.l0])
  | succ k1 =>
   have H := HA.out
   clear HA
   simp only [spec_l2CmpText.l0] at H
   have HC3 := am_ H
   clear H
   go_upto_region 2 with (fail)
   repeat (go_quiet (fail); go_upto_region 2 with (fail))
   go_cut [15] (fun v15 wc => ∃ (kq : Nat) (x15_2 : Bool), v15 = .bool x15_2 ∧ Aside0 (spec_l2CmpText.j1 kq a0 a1 x5_1 x15_2 = some r) ∧ Aside0 (kq ≤ k1) ∧ Drawn0 w wc)
   case first =>
    have H := HC3.out
    clear HC3
    by_cases c4 : x5_1 < (a0.size : Int)
    ·rw [if_pos c4] at H
     have c4b0 : decide (x5_1 < (a0.size : Int)) = true := decide_eq_true c4
     clear c4
     (first | rw [c4b0] | (simp only [i64_w, i32_w]; rw [c4b0]) | skip)
     have H' := am_ H
     clear H
     go_wp2
     repeat (go_quiet (fail); try go_wp2)
     go_meet
     case rel => exact ⟨_, (decide (x5_1 < (a1.size : Int))), rs_, H', ⟨by have := HK1.out; first | omega | exact Nat.le_refl _⟩, by repeat (first | exact Drawn0.refl _ | apply Drawn0.step)⟩
    ·rw [if_neg c4] at H
     have c4b0 : decide (x5_1 < (a0.size : Int)) = false := decide_eq_false c4
     clear c4
     (first | rw [c4b0] | (simp only [i64_w, i32_w]; rw [c4b0]) | skip)
     have H' := am_ H
     clear H
     go_wp2
     repeat (go_quiet (fail); try go_wp2)
     go_meet
     case rel => exact ⟨_, (false), rs_, H', ⟨by have := HK1.out; first | omega | exact Nat.le_refl _⟩, by repeat (first | exact Drawn0.refl _ | apply Drawn0.step)⟩
   case rest =>
    clear HC3
    try clear c1
    try clear p2
    try clear c4
    try clear c4b0
    try clear p2
    obtain ⟨kq, x15_2, rfl, HA, HJ2, ⟨mc2, rfl⟩⟩ := hcut
    cases kq with
    | zero => exact absurd HA.out (by simp [spec_l2CmpText.j1])
    | succ kj2 =>
     have H := HA.out
     clear HA
     simp only [spec_l2CmpText.j1] at H
     by_cases c5 : x15_2 = true
     ·subst c5
      have H1 : (if 0 ≤ x5_1 then (if x5_1 < (a0.size : Int) then (if x5_1 < (a1.size : Int) then (if (bt a0 x5_1) = (bt a1 x5_1) then (spec_l2CmpText.l0 kj2 a0 a1 (wrap64 (x5_1 + 1))) else ((spec_l2CmpNum.f (wrap64 (bt a0 x5_1)) (wrap64 (bt a1 x5_1))).bind fun t1001 => (some t1001))) else (none)) else (none)) else (none)) = some r := by rw [if_pos rfl] at H; exact H
      clear H
      have H := H1
      clear H1
      by_cases c6 : 0 ≤ x5_1
      ·rw [if_pos c6] at H
       have c6b0 : decide (0 ≤ x5_1) = true := decide_eq_true c6
       clear c6
       by_cases c7 : x5_1 < (a0.size : Int)
       ·rw [if_pos c7] at H
        have c7b0 : decide (x5_1 < (a0.size : Int)) = true := decide_eq_true c7
        clear c7
        by_cases c9 : x5_1 < (a1.size : Int)
        ·rw [if_pos c9] at H
         have c9b0 : decide (x5_1 < (a1.size : Int)) = true := decide_eq_true c9
         clear c9
         by_cases c11 : (bt a0 x5_1) = (bt a1 x5_1)
         ·rw [if_pos c11] at H
          have c11b0 : ((bt a0 x5_1) == (bt a1 x5_1)) = true := beq_iff_eq.mpr c11
          have c11b1 : ((bt a0 x5_1) != (bt a1 x5_1)) = false := bne_eq_false_iff_eq.mpr c11
          clear c11
          have H' := am_ H
          clear H
          have p8 : 0 ≤ (x5_1 : Int) := od_
          have q8 : x5_1 < (a0.size : Int) := od_
          have hx8 := bt_at a0 x5_1
          replace p8 := eq_true p8
          replace q8 := eq_true q8
          have p10 : 0 ≤ (x5_1 : Int) := od_
          have q10 : x5_1 < (a1.size : Int) := od_
          have hx10 := bt_at a1 x5_1
          replace p10 := eq_true p10
          replace q10 := eq_true q10
          go_wp2
          repeat (go_quiet (fail); try go_wp2)
          go_roundg kj2
          case measure => have := HK1.out; have := HJ2.out; omega
          case rel => exact ⟨(wrap64 (x5_1 + 1)), rs_, H', ⟨by have := HK1.out; have := HJ2.out; omega⟩, by repeat (first | exact Drawn0.refl _ | apply Drawn0.step)⟩
         ·rw [if_neg c11] at H
          have c11b0 : ((bt a0 x5_1) == (bt a1 x5_1)) = false := beq_eq_false_iff_ne.mpr c11
          have c11b1 : ((bt a0 x5_1) != (bt a1 x5_1)) = true := bne_iff_ne.mpr c11
          replace H := Option.bind_eq_some_iff.mp H
          obtain ⟨t1001, A140, H⟩ := H
          replace H : (some t1001) = some r := H
          have A14 := am_ A140
          clear A140
          obtain rfl := Option.some.inj H
          have p8 : 0 ≤ (x5_1 : Int) := od_
          have q8 : x5_1 < (a0.size : Int) := od_
          have hx8 := bt_at a0 x5_1
          replace p8 := eq_true p8
          replace q8 := eq_true q8
          have p10 : 0 ≤ (x5_1 : Int) := od_
          have q10 : x5_1 < (a1.size : Int) := od_
          have hx10 := bt_at a1 x5_1
          replace p10 := eq_true p10
          replace q10 := eq_true q10
          have p12 : 0 ≤ (x5_1 : Int) := od_
          have q12 : x5_1 < (a0.size : Int) := od_
          have hx12 := bt_at a0 x5_1
          replace p12 := eq_true p12
          replace q12 := eq_true q12
          have p13 : 0 ≤ (x5_1 : Int) := od_
          have q13 : x5_1 < (a1.size : Int) := od_
          have hx13 := bt_at a1 x5_1
          replace p13 := eq_true p13
          replace q13 := eq_true q13
          go_wp2_with (first | (go_at_call 133; (with_reducible refine (spec_l2CmpNum.calls (wrap64 (bt a0 x5_1)) (wrap64 (bt a1 x5_1)) t1001 _ A14.out).mono ?_); rintro e w' ⟨rfl, ⟨nd, rfl⟩⟩; (try exact dd_)))
          repeat (go_quiet (first | (go_at_call 133; (with_reducible refine (spec_l2CmpNum.calls (wrap64 (bt a0 x5_1)) (wrap64 (bt a1 x5_1)) t1001 _ A14.out).mono ?_); rintro e w' ⟨rfl, ⟨nd, rfl⟩⟩; (try exact dd_))); try go_wp2_with (first | (go_at_call 133; (with_reducible refine (spec_l2CmpNum.calls (wrap64 (bt a0 x5_1)) (wrap64 (bt a1 x5_1)) t1001 _ A14.out).mono ?_); rintro e w' ⟨rfl, ⟨nd, rfl⟩⟩; (try exact dd_))))
          go_ret
          exact ⟨by first | rfl | (simp; done) | (simp [*]; done), by repeat (first | exact Drawn0.refl _ | apply Drawn0.step)⟩
        ·rw [if_neg c9] at H
         exact absurd H (by simp)
       ·rw [if_neg c7] at H
        exact absurd H (by simp)
      ·rw [if_neg c6] at H
       exact absurd H (by simp)
     ·replace c5 := Bool.eq_false_iff.mpr c5
      subst c5
      have H1 : ((spec_l2CmpNum.f (a0.size : Int) (a1.size : Int)).bind fun t1002 => (some t1002)) = some r := by rw [if_neg (show ¬ (false = true) by decide)] at H; exact H
      clear H
      have H := H1
      clear H1
      replace H := Option.bind_eq_some_iff.mp H
      obtain ⟨t1002, A150, H⟩ := H
      replace H : (some t1002) = some r := H
      have A15 := am_ A150
      clear A150
      obtain rfl := Option.some.inj H
      go_wp2_with (first | (go_at_call 133; (with_reducible refine (spec_l2CmpNum.calls (a0.size : Int) (a1.size : Int) t1002 _ A15.out).mono ?_); rintro e w' ⟨rfl, ⟨nd, rfl⟩⟩; (try exact dd_)))
      repeat (go_quiet (first | (go_at_call 133; (with_reducible refine (spec_l2CmpNum.calls (a0.size : Int) (a1.size : Int) t1002 _ A15.out).mono ?_); rintro e w' ⟨rfl, ⟨nd, rfl⟩⟩; (try exact dd_))); try go_wp2_with (first | (go_at_call 133; (with_reducible refine (spec_l2CmpNum.calls (a0.size : Int) (a1.size : Int) t1002 _ A15.out).mono ?_); rintro e w' ⟨rfl, ⟨nd, rfl⟩⟩; (try exact dd_))))
      go_ret
      exact ⟨by first | rfl | (simp; done) | (simp [*]; done), by repeat (first | exact Drawn0.refl _ | apply Drawn0.step)⟩

/-! ### spec_GoodLabels: function 64 -/
def spec_GoodLabels.l0 : Nat → List (S86) → List (S86) → Int → Int → Option (Bool)
 | 0, _, _, _, _ => none
 | k + 1, x0, x8, x9, x10 => if x10 < x9 then (if 0 ≤ x10 then (if x10 < (x8.length : Int) then ((spec_l2Name.f k ((rd_T86 x8 x10).f0)).bind fun t1003 => (if t1003 = true then ((spec_l2Value.f k ((rd_T86 x8 x10).f1)).bind fun t1004 => (if t1004 = true then (if x10 > 0 then (if 0 ≤ (wrap64 (x10 - 1)) then (if (wrap64 (x10 - 1)) < (x0.length : Int) then ((spec_l2CmpText.f k ((rd_T86 x0 (wrap64 (x10 - 1))).f0) ((rd_T86 x8 x10).f0)).bind fun t1006 => (if t1006 ≥ 0 then (some false) else (spec_GoodLabels.l0 k x0 x8 x9 (wrap64 (x10 + 1))))) else (none)) else (none)) else (spec_GoodLabels.l0 k x0 x8 x9 (wrap64 (x10 + 1)))) else (some false))) else (some false))) else (none)) else (none)) else (some true)
def spec_GoodLabels.f (k : Nat) (l0 : List (S86)) : Option (Bool) := if (l0.length : Int) > 20 then (some false) else (spec_GoodLabels.l0 k l0 l0 (l0.length : Int) 0)
theorem spec_GoodLabels.mono_l : ∀ k, (∀ y0 y1 y2 y3, LeO (spec_GoodLabels.l0 k y0 y1 y2 y3) (spec_GoodLabels.l0 (k + 1) y0 y1 y2 y3))
 | 0 => fun _ _ _ _ r h => by simp [spec_GoodLabels.l0] at h
 | k + 1 => by
  have ih0 := spec_GoodLabels.mono_l k
  ·intro y0 y1 y2 y3
   unfold spec_GoodLabels.l0
   repeat' first
   | with_reducible first | exact ih0 _ _ _ _ | exact spec_l2CmpText.mono _ _ _ | exact spec_l2Name.mono _ _ | exact spec_l2Value.mono _ _ | exact LeO.refl _ | exact LeO.none _ | refine LeO.ite ?_ ?_ | refine LeO.bind ?_ (fun _ => ?_)
   | exact ih0 _ _ _ _
   | exact spec_l2CmpText.mono _ _ _
   | exact spec_l2Name.mono _ _
   | exact spec_l2Value.mono _ _
   | exact LeO.none _
   | refine LeO.ite ?_ ?_
   | refine LeO.bind ?_ (fun _ => ?_)
theorem spec_GoodLabels.mono : ∀ a0 k, LeO (spec_GoodLabels.f k a0) (spec_GoodLabels.f (k + 1) a0) := by
 intro a0 k
 have ih0 := spec_GoodLabels.mono_l k
 unfold spec_GoodLabels.f
 repeat' first
   | with_reducible first | exact ih0 _ _ _ _ | exact spec_l2CmpText.mono _ _ _ | exact spec_l2Name.mono _ _ | exact spec_l2Value.mono _ _ | exact LeO.refl _ | exact LeO.none _ | refine LeO.ite ?_ ?_ | refine LeO.bind ?_ (fun _ => ?_)
   | exact ih0 _ _ _ _
   | exact spec_l2CmpText.mono _ _ _
   | exact spec_l2Name.mono _ _
   | exact spec_l2Value.mono _ _
   | exact LeO.none _
   | refine LeO.ite ?_ ?_
   | refine LeO.bind ?_ (fun _ => ?_)
set_option maxHeartbeats 8000000 in
set_option maxRecDepth 100000 in
theorem spec_GoodLabels.calls (k : Nat) (A0 : Option Addr) (c0 : Nat) (l0 : List (S86)) (r : Bool) (w : World) (hr0 : Kd.C k86 w A0 l0.length l0) (hc0 : l0.length ≤ c0) (h : spec_GoodLabels.f k l0 = some r) :
  Calls Try.prog 64 #[.slice A0 l0.length c0] w fun e w' => e = .returned (.bool r) ∧ Below w.heap.size w w' := by
 have hu86 := Try.underlying86
 have HR0 := am_ hr0
 have HC0 := am_ hc0
 clear hr0 hc0
 have HB := am_ (Below.refl w.heap.size w)
 have H : (if (l0.length : Int) > 20 then (some false) else (spec_GoodLabels.l0 k l0 l0 (l0.length : Int) 0)) = some r := h
 clear h
 by_cases c2 : (l0.length : Int) > 20
 ·rw [if_pos c2] at H
  have c2b0 : decide (20 < (l0.length : Int)) = true := decide_eq_true c2
  have c2b1 : decide (20 < l0.length) = true := decide_eq_true (by omega)
  clear c2
  obtain rfl := Option.some.inj H
  go_enter Try.func64, Try.ntmps64
  go_wp2
  repeat (go_quiet (fail); try go_wp2)
  go_ret
  exact ⟨rf_, bl_⟩
 ·rw [if_neg c2] at H
  have c2b0 : decide (20 < (l0.length : Int)) = false := decide_eq_false c2
  have c2b1 : decide (20 < l0.length) = false := decide_eq_false (by omega)
  clear c2
  have H' := am_ H
  clear H
  go_enter Try.func64, Try.ntmps64
  go_wp2
  repeat (go_quiet (fail); try go_wp2)
  go_loopg [10] k (fun kq v10 w' => ∃ (x10_1 : Int), v10 = .int .i64 x10_1 ∧ Aside0 (spec_GoodLabels.l0 kq l0 l0 (l0.length : Int) x10_1 = some r) ∧ Aside0 (kq ≤ k) ∧ Aside0 (Below w.heap.size w w'))
  case atStart => exact ⟨(0), rs_, H', ⟨Nat.le_refl _⟩, ⟨bl_⟩⟩
  case round =>
   clear H'
   try clear c2
   try clear c2b0
   try clear c2b1
   try clear p2
   obtain ⟨x10_1, rfl, HA, HK1, HB⟩ := hrel
   cases gk with
   | zero => exact absurd HA.out (by simp [spec_GoodLabels.l0])
   | succ k1 =>
    have H := HA.out
    clear HA
    simp only [spec_GoodLabels.l0] at H
    by_cases c3 : x10_1 < (l0.length : Int)
    ·rw [if_pos c3] at H
     have c3b0 : decide (x10_1 < (l0.length : Int)) = true := decide_eq_true c3
     clear c3
     by_cases c4 : 0 ≤ x10_1
     ·rw [if_pos c4] at H
      have c4b0 : decide (0 ≤ x10_1) = true := decide_eq_true c4
      clear c4
      by_cases c5 : x10_1 < (l0.length : Int)
      ·rw [if_pos c5] at H
       have c5b0 : decide (x10_1 < (l0.length : Int)) = true := decide_eq_true c5
       clear c5
       replace H := Option.bind_eq_some_iff.mp H
       obtain ⟨t1003, A60, H⟩ := H
       replace H : (if t1003 = true then ((spec_l2Value.f k1 ((rd_T86 l0 x10_1).f1)).bind fun t1004 => (if t1004 = true then (if x10_1 > 0 then (if 0 ≤ (wrap64 (x10_1 - 1)) then (if (wrap64 (x10_1 - 1)) < (l0.length : Int) then ((spec_l2CmpText.f k1 ((rd_T86 l0 (wrap64 (x10_1 - 1))).f0) ((rd_T86 l0 x10_1).f0)).bind fun t1006 => (if t1006 ≥ 0 then (some false) else (spec_GoodLabels.l0 k1 l0 l0 (l0.length : Int) (wrap64 (x10_1 + 1))))) else (none)) else (none)) else (spec_GoodLabels.l0 k1 l0 l0 (l0.length : Int) (wrap64 (x10_1 + 1)))) else (some false))) else (some false)) = some r := H
       have A6 := am_ A60
       clear A60
       by_cases c7 : t1003 = true
       ·subst c7
        have H1 : ((spec_l2Value.f k1 ((rd_T86 l0 x10_1).f1)).bind fun t1004 => (if t1004 = true then (if x10_1 > 0 then (if 0 ≤ (wrap64 (x10_1 - 1)) then (if (wrap64 (x10_1 - 1)) < (l0.length : Int) then ((spec_l2CmpText.f k1 ((rd_T86 l0 (wrap64 (x10_1 - 1))).f0) ((rd_T86 l0 x10_1).f0)).bind fun t1006 => (if t1006 ≥ 0 then (some false) else (spec_GoodLabels.l0 k1 l0 l0 (l0.length : Int) (wrap64 (x10_1 + 1))))) else (none)) else (none)) else (spec_GoodLabels.l0 k1 l0 l0 (l0.length : Int) (wrap64 (x10_1 + 1)))) else (some false))) = some r := by rw [if_pos rfl] at H; exact H
        clear H
        have H := H1
        clear H1
        replace H := Option.bind_eq_some_iff.mp H
        obtain ⟨t1004, A80, H⟩ := H
        replace H : (if t1004 = true then (if x10_1 > 0 then (if 0 ≤ (wrap64 (x10_1 - 1)) then (if (wrap64 (x10_1 - 1)) < (l0.length : Int) then ((spec_l2CmpText.f k1 ((rd_T86 l0 (wrap64 (x10_1 - 1))).f0) ((rd_T86 l0 x10_1).f0)).bind fun t1006 => (if t1006 ≥ 0 then (some false) else (spec_GoodLabels.l0 k1 l0 l0 (l0.length : Int) (wrap64 (x10_1 + 1))))) else (none)) else (none)) else (spec_GoodLabels.l0 k1 l0 l0 (l0.length : Int) (wrap64 (x10_1 + 1)))) else (some false)) = some r := H
        have A8 := am_ A80
        clear A80
        by_cases c9 : t1004 = true
        ·subst c9
         have H1 : (if x10_1 > 0 then (if 0 ≤ (wrap64 (x10_1 - 1)) then (if (wrap64 (x10_1 - 1)) < (l0.length : Int) then ((spec_l2CmpText.f k1 ((rd_T86 l0 (wrap64 (x10_1 - 1))).f0) ((rd_T86 l0 x10_1).f0)).bind fun t1006 => (if t1006 ≥ 0 then (some false) else (spec_GoodLabels.l0 k1 l0 l0 (l0.length : Int) (wrap64 (x10_1 + 1))))) else (none)) else (none)) else (spec_GoodLabels.l0 k1 l0 l0 (l0.length : Int) (wrap64 (x10_1 + 1)))) = some r := by rw [if_pos rfl] at H; exact H
         clear H
         have H := H1
         clear H1
         by_cases c10 : x10_1 > 0
         ·rw [if_pos c10] at H
          have c10b0 : decide (0 < x10_1) = true := decide_eq_true c10
          clear c10
          obtain ⟨ji11, hji11⟩ : ∃ j_ : Int, (wrap64 (x10_1 - 1)) = j_ := ⟨_, rfl⟩
          replace H : (if 0 ≤ (ji11) then (if (ji11) < (l0.length : Int) then ((spec_l2CmpText.f k1 ((rd_T86 l0 (ji11)).f0) ((rd_T86 l0 x10_1).f0)).bind fun t1006 => (if t1006 ≥ 0 then (some false) else (spec_GoodLabels.l0 k1 l0 l0 (l0.length : Int) (wrap64 (x10_1 + 1))))) else (none)) else (none)) = some r := by first | (rw [hji11] at H; exact H) | (simp only [hji11] at H ⊢; exact H)
          (try rw [hji11] at A6)
          (try rw [hji11] at A8)
          have hji11w : (IntKind.i64.wrap (x10_1 - 1)) = ji11 := (i64_w _).trans hji11
          by_cases c12 : 0 ≤ (ji11)
          ·rw [if_pos c12] at H
           have c12b0 : decide (0 ≤ (ji11)) = true := decide_eq_true c12
           clear c12
           by_cases c13 : (ji11) < (l0.length : Int)
           ·rw [if_pos c13] at H
            have c13b0 : decide ((ji11) < (l0.length : Int)) = true := decide_eq_true c13
            clear c13
            replace H := Option.bind_eq_some_iff.mp H
            obtain ⟨t1006, A140, H⟩ := H
            replace H : (if t1006 ≥ 0 then (some false) else (spec_GoodLabels.l0 k1 l0 l0 (l0.length : Int) (wrap64 (x10_1 + 1)))) = some r := H
            have A14 := am_ A140
            clear A140
            by_cases c15 : t1006 ≥ 0
            ·rw [if_pos c15] at H
             have c15b0 : decide (0 ≤ t1006) = true := decide_eq_true c15
             clear c15
             obtain rfl := Option.some.inj H
             have p1001 : 0 ≤ (x10_1 : Int) := od_
             have q1001 : x10_1 < (l0.length : Int) := od_
             obtain ⟨ad1001, e1001, hx1001_0, hx1001_1⟩ := at_T86 HR0.out x10_1 p1001 q1001
             cases e1001
             replace hx1001_0 := kp_ HB hx1001_0
             replace hx1001_1 := kp_ HB hx1001_1
             replace p1001 := eq_true p1001
             replace q1001 := eq_true q1001
             go_wp2_with (first | ((with_reducible refine gate_dst (N := 4) rfl ?_); refine box_event ?hg (N := 4) ?hd (cs := #[.string (⟨#[]⟩ : ByteArray), .string (⟨#[]⟩ : ByteArray)]) (t := 86) ?hr ?_; (case hd => rfl); (case hg => rfl); (case hr => first | (go_simp; done) | (go_simp; rfl)); intro gb1002 hg w16 hbox hb; have n0_ := am_ (below_step bl_ hb); have n1_ := am_ (hbox); have n2_ := am_ (gs_ hg : w.heap.size ≤ gb1002); have n3_ := n2_; clear HB; have HB := n0_; have BK1002 := n1_; have GW1002 := n2_; have GE1002 := n3_; clear n0_ n1_ n2_ n3_; clear hb hbox hg; have hcz17_0 := bc2_0 BK1002; have hcz17_1 := bc2_1 BK1002; have hfz17_0 := bf_ BK1002 0; have hfz17_1 := bf_ BK1002 1) | (go_at_call 65; (with_reducible refine (spec_l2Name.calls k1 ((rd_T86 l0 x10_1).f0) true _ A6.out).mono ?_); rintro e w' ⟨rfl, ⟨nd, rfl⟩⟩; (try exact dd_)) | (go_at_call 66; (with_reducible refine (spec_l2Value.calls k1 ((rd_T86 l0 x10_1).f1) true _ A8.out).mono ?_); rintro e w' ⟨rfl, ⟨nd, rfl⟩⟩; (try exact dd_); have p1005 : 0 ≤ ((ji11) : Int) := od_; have q1005 : (ji11) < (l0.length : Int) := od_; obtain ⟨ad1005, e1005, hx1005_0, hx1005_1⟩ := at_T86 HR0.out (ji11) p1005 q1005; obtain rfl : ad1001 = ad1005 := (by injection e1005); have hn1005_0 : ad1001.block ≠ gb1002 := hb_ hx1005_0 GW1002; have hn1005_1 : ad1001.block ≠ gb1002 := hb_ hx1005_0 GW1002; replace hx1005_0 := kp_ HB hx1005_0; replace hx1005_1 := kp_ HB hx1005_1; replace hx1005_0 := cf_ gb1002 0 hn1005_0 (.string ((rd_T86 l0 x10_1).f0)) hx1005_0; replace hx1005_1 := cf_ gb1002 0 hn1005_0 (.string ((rd_T86 l0 x10_1).f0)) hx1005_1; replace hx1005_0 := cf_ gb1002 1 hn1005_1 (.string ((rd_T86 l0 x10_1).f1)) hx1005_0; replace hx1005_1 := cf_ gb1002 1 hn1005_1 (.string ((rd_T86 l0 x10_1).f1)) hx1005_1; (try have hy1005_0 := fun (n_ : Nat) => (show ((((w16.drewN n_).setCell ⟨gb1002, 0, none⟩ (.string ((rd_T86 l0 x10_1).f0))).setCell ⟨gb1002, 1, none⟩ (.string ((rd_T86 l0 x10_1).f1)))).cell? _ = some _ from hx1005_0)); (try have hy1005_1 := fun (n_ : Nat) => (show ((((w16.drewN n_).setCell ⟨gb1002, 0, none⟩ (.string ((rd_T86 l0 x10_1).f0))).setCell ⟨gb1002, 1, none⟩ (.string ((rd_T86 l0 x10_1).f1)))).cell? _ = some _ from hx1005_1)); clear hn1005_0; clear hn1005_1; replace p1005 := eq_true p1005; replace q1005 := eq_true q1005) | (go_at_call 115; (with_reducible refine (spec_l2CmpText.calls k1 ((rd_T86 l0 (ji11)).f0) ((rd_T86 l0 x10_1).f0) t1006 _ A14.out).mono ?_); rintro e w' ⟨rfl, ⟨nd, rfl⟩⟩; (try exact dd_)))
             repeat (go_quiet (first | ((with_reducible refine gate_dst (N := 4) rfl ?_); refine box_event ?hg (N := 4) ?hd (cs := #[.string (⟨#[]⟩ : ByteArray), .string (⟨#[]⟩ : ByteArray)]) (t := 86) ?hr ?_; (case hd => rfl); (case hg => rfl); (case hr => first | (go_simp; done) | (go_simp; rfl)); intro gb1002 hg w16 hbox hb; have n0_ := am_ (below_step bl_ hb); have n1_ := am_ (hbox); have n2_ := am_ (gs_ hg : w.heap.size ≤ gb1002); have n3_ := n2_; clear HB; have HB := n0_; have BK1002 := n1_; have GW1002 := n2_; have GE1002 := n3_; clear n0_ n1_ n2_ n3_; clear hb hbox hg; have hcz17_0 := bc2_0 BK1002; have hcz17_1 := bc2_1 BK1002; have hfz17_0 := bf_ BK1002 0; have hfz17_1 := bf_ BK1002 1) | (go_at_call 65; (with_reducible refine (spec_l2Name.calls k1 ((rd_T86 l0 x10_1).f0) true _ A6.out).mono ?_); rintro e w' ⟨rfl, ⟨nd, rfl⟩⟩; (try exact dd_)) | (go_at_call 66; (with_reducible refine (spec_l2Value.calls k1 ((rd_T86 l0 x10_1).f1) true _ A8.out).mono ?_); rintro e w' ⟨rfl, ⟨nd, rfl⟩⟩; (try exact dd_); have p1005 : 0 ≤ ((ji11) : Int) := od_; have q1005 : (ji11) < (l0.length : Int) := od_; obtain ⟨ad1005, e1005, hx1005_0, hx1005_1⟩ := at_T86 HR0.out (ji11) p1005 q1005; obtain rfl : ad1001 = ad1005 := (by injection e1005); have hn1005_0 : ad1001.block ≠ gb1002 := hb_ hx1005_0 GW1002; have hn1005_1 : ad1001.block ≠ gb1002 := hb_ hx1005_0 GW1002; replace hx1005_0 := kp_ HB hx1005_0; replace hx1005_1 := kp_ HB hx1005_1; replace hx1005_0 := cf_ gb1002 0 hn1005_0 (.string ((rd_T86 l0 x10_1).f0)) hx1005_0; replace hx1005_1 := cf_ gb1002 0 hn1005_0 (.string ((rd_T86 l0 x10_1).f0)) hx1005_1; replace hx1005_0 := cf_ gb1002 1 hn1005_1 (.string ((rd_T86 l0 x10_1).f1)) hx1005_0; replace hx1005_1 := cf_ gb1002 1 hn1005_1 (.string ((rd_T86 l0 x10_1).f1)) hx1005_1; (try have hy1005_0 := fun (n_ : Nat) => (show ((((w16.drewN n_).setCell ⟨gb1002, 0, none⟩ (.string ((rd_T86 l0 x10_1).f0))).setCell ⟨gb1002, 1, none⟩ (.string ((rd_T86 l0 x10_1).f1)))).cell? _ = some _ from hx1005_0)); (try have hy1005_1 := fun (n_ : Nat) => (show ((((w16.drewN n_).setCell ⟨gb1002, 0, none⟩ (.string ((rd_T86 l0 x10_1).f0))).setCell ⟨gb1002, 1, none⟩ (.string ((rd_T86 l0 x10_1).f1)))).cell? _ = some _ from hx1005_1)); clear hn1005_0; clear hn1005_1; replace p1005 := eq_true p1005; replace q1005 := eq_true q1005) | (go_at_call 115; (with_reducible refine (spec_l2CmpText.calls k1 ((rd_T86 l0 (ji11)).f0) ((rd_T86 l0 x10_1).f0) t1006 _ A14.out).mono ?_); rintro e w' ⟨rfl, ⟨nd, rfl⟩⟩; (try exact dd_))); try go_wp2_with (first | ((with_reducible refine gate_dst (N := 4) rfl ?_); refine box_event ?hg (N := 4) ?hd (cs := #[.string (⟨#[]⟩ : ByteArray), .string (⟨#[]⟩ : ByteArray)]) (t := 86) ?hr ?_; (case hd => rfl); (case hg => rfl); (case hr => first | (go_simp; done) | (go_simp; rfl)); intro gb1002 hg w16 hbox hb; have n0_ := am_ (below_step bl_ hb); have n1_ := am_ (hbox); have n2_ := am_ (gs_ hg : w.heap.size ≤ gb1002); have n3_ := n2_; clear HB; have HB := n0_; have BK1002 := n1_; have GW1002 := n2_; have GE1002 := n3_; clear n0_ n1_ n2_ n3_; clear hb hbox hg; have hcz17_0 := bc2_0 BK1002; have hcz17_1 := bc2_1 BK1002; have hfz17_0 := bf_ BK1002 0; have hfz17_1 := bf_ BK1002 1) | (go_at_call 65; (with_reducible refine (spec_l2Name.calls k1 ((rd_T86 l0 x10_1).f0) true _ A6.out).mono ?_); rintro e w' ⟨rfl, ⟨nd, rfl⟩⟩; (try exact dd_)) | (go_at_call 66; (with_reducible refine (spec_l2Value.calls k1 ((rd_T86 l0 x10_1).f1) true _ A8.out).mono ?_); rintro e w' ⟨rfl, ⟨nd, rfl⟩⟩; (try exact dd_); have p1005 : 0 ≤ ((ji11) : Int) := od_; have q1005 : (ji11) < (l0.length : Int) := od_; obtain ⟨ad1005, e1005, hx1005_0, hx1005_1⟩ := at_T86 HR0.out (ji11) p1005 q1005; obtain rfl : ad1001 = ad1005 := (by injection e1005); have hn1005_0 : ad1001.block ≠ gb1002 := hb_ hx1005_0 GW1002; have hn1005_1 : ad1001.block ≠ gb1002 := hb_ hx1005_0 GW1002; replace hx1005_0 := kp_ HB hx1005_0; replace hx1005_1 := kp_ HB hx1005_1; replace hx1005_0 := cf_ gb1002 0 hn1005_0 (.string ((rd_T86 l0 x10_1).f0)) hx1005_0; replace hx1005_1 := cf_ gb1002 0 hn1005_0 (.string ((rd_T86 l0 x10_1).f0)) hx1005_1; replace hx1005_0 := cf_ gb1002 1 hn1005_1 (.string ((rd_T86 l0 x10_1).f1)) hx1005_0; replace hx1005_1 := cf_ gb1002 1 hn1005_1 (.string ((rd_T86 l0 x10_1).f1)) hx1005_1; (try have hy1005_0 := fun (n_ : Nat) => (show ((((w16.drewN n_).setCell ⟨gb1002, 0, none⟩ (.string ((rd_T86 l0 x10_1).f0))).setCell ⟨gb1002, 1, none⟩ (.string ((rd_T86 l0 x10_1).f1)))).cell? _ = some _ from hx1005_0)); (try have hy1005_1 := fun (n_ : Nat) => (show ((((w16.drewN n_).setCell ⟨gb1002, 0, none⟩ (.string ((rd_T86 l0 x10_1).f0))).setCell ⟨gb1002, 1, none⟩ (.string ((rd_T86 l0 x10_1).f1)))).cell? _ = some _ from hx1005_1)); clear hn1005_0; clear hn1005_1; replace p1005 := eq_true p1005; replace q1005 := eq_true q1005) | (go_at_call 115; (with_reducible refine (spec_l2CmpText.calls k1 ((rd_T86 l0 (ji11)).f0) ((rd_T86 l0 x10_1).f0) t1006 _ A14.out).mono ?_); rintro e w' ⟨rfl, ⟨nd, rfl⟩⟩; (try exact dd_))))
             go_ret
             exact ⟨by first | rfl | (simp [errW_none, errW_some] <;> rfl) | (simp only [← hji11]; first | rfl | (simp [errW_none, errW_some] <;> rfl)) | (simp [*, errW_none, errW_some] <;> rfl) | (simp [*, Go.Proofs.Ythgeohdpjedhnaa.Gt.nil_bne]; done), bg_⟩
            ·rw [if_neg c15] at H
             have c15b0 : decide (0 ≤ t1006) = false := decide_eq_false c15
             clear c15
             have H' := am_ H
             clear H
             have p1001 : 0 ≤ (x10_1 : Int) := od_
             have q1001 : x10_1 < (l0.length : Int) := od_
             obtain ⟨ad1001, e1001, hx1001_0, hx1001_1⟩ := at_T86 HR0.out x10_1 p1001 q1001
             cases e1001
             replace hx1001_0 := kp_ HB hx1001_0
             replace hx1001_1 := kp_ HB hx1001_1
             replace p1001 := eq_true p1001
             replace q1001 := eq_true q1001
             go_wp2_with (first | ((with_reducible refine gate_dst (N := 4) rfl ?_); refine box_event ?hg (N := 4) ?hd (cs := #[.string (⟨#[]⟩ : ByteArray), .string (⟨#[]⟩ : ByteArray)]) (t := 86) ?hr ?_; (case hd => rfl); (case hg => rfl); (case hr => first | (go_simp; done) | (go_simp; rfl)); intro gb1002 hg w18 hbox hb; have n0_ := am_ (below_step bl_ hb); have n1_ := am_ (hbox); have n2_ := am_ (gs_ hg : w.heap.size ≤ gb1002); have n3_ := n2_; clear HB; have HB := n0_; have BK1002 := n1_; have GW1002 := n2_; have GE1002 := n3_; clear n0_ n1_ n2_ n3_; clear hb hbox hg; have hcz19_0 := bc2_0 BK1002; have hcz19_1 := bc2_1 BK1002; have hfz19_0 := bf_ BK1002 0; have hfz19_1 := bf_ BK1002 1) | (go_at_call 65; (with_reducible refine (spec_l2Name.calls k1 ((rd_T86 l0 x10_1).f0) true _ A6.out).mono ?_); rintro e w' ⟨rfl, ⟨nd, rfl⟩⟩; (try exact dd_)) | (go_at_call 66; (with_reducible refine (spec_l2Value.calls k1 ((rd_T86 l0 x10_1).f1) true _ A8.out).mono ?_); rintro e w' ⟨rfl, ⟨nd, rfl⟩⟩; (try exact dd_); have p1005 : 0 ≤ ((ji11) : Int) := od_; have q1005 : (ji11) < (l0.length : Int) := od_; obtain ⟨ad1005, e1005, hx1005_0, hx1005_1⟩ := at_T86 HR0.out (ji11) p1005 q1005; obtain rfl : ad1001 = ad1005 := (by injection e1005); have hn1005_0 : ad1001.block ≠ gb1002 := hb_ hx1005_0 GW1002; have hn1005_1 : ad1001.block ≠ gb1002 := hb_ hx1005_0 GW1002; replace hx1005_0 := kp_ HB hx1005_0; replace hx1005_1 := kp_ HB hx1005_1; replace hx1005_0 := cf_ gb1002 0 hn1005_0 (.string ((rd_T86 l0 x10_1).f0)) hx1005_0; replace hx1005_1 := cf_ gb1002 0 hn1005_0 (.string ((rd_T86 l0 x10_1).f0)) hx1005_1; replace hx1005_0 := cf_ gb1002 1 hn1005_1 (.string ((rd_T86 l0 x10_1).f1)) hx1005_0; replace hx1005_1 := cf_ gb1002 1 hn1005_1 (.string ((rd_T86 l0 x10_1).f1)) hx1005_1; (try have hy1005_0 := fun (n_ : Nat) => (show ((((w18.drewN n_).setCell ⟨gb1002, 0, none⟩ (.string ((rd_T86 l0 x10_1).f0))).setCell ⟨gb1002, 1, none⟩ (.string ((rd_T86 l0 x10_1).f1)))).cell? _ = some _ from hx1005_0)); (try have hy1005_1 := fun (n_ : Nat) => (show ((((w18.drewN n_).setCell ⟨gb1002, 0, none⟩ (.string ((rd_T86 l0 x10_1).f0))).setCell ⟨gb1002, 1, none⟩ (.string ((rd_T86 l0 x10_1).f1)))).cell? _ = some _ from hx1005_1)); clear hn1005_0; clear hn1005_1; replace p1005 := eq_true p1005; replace q1005 := eq_true q1005) | (go_at_call 115; (with_reducible refine (spec_l2CmpText.calls k1 ((rd_T86 l0 (ji11)).f0) ((rd_T86 l0 x10_1).f0) t1006 _ A14.out).mono ?_); rintro e w' ⟨rfl, ⟨nd, rfl⟩⟩; (try exact dd_)))
             repeat (go_quiet (first | ((with_reducible refine gate_dst (N := 4) rfl ?_); refine box_event ?hg (N := 4) ?hd (cs := #[.string (⟨#[]⟩ : ByteArray), .string (⟨#[]⟩ : ByteArray)]) (t := 86) ?hr ?_; (case hd => rfl); (case hg => rfl); (case hr => first | (go_simp; done) | (go_simp; rfl)); intro gb1002 hg w18 hbox hb; have n0_ := am_ (below_step bl_ hb); have n1_ := am_ (hbox); have n2_ := am_ (gs_ hg : w.heap.size ≤ gb1002); have n3_ := n2_; clear HB; have HB := n0_; have BK1002 := n1_; have GW1002 := n2_; have GE1002 := n3_; clear n0_ n1_ n2_ n3_; clear hb hbox hg; have hcz19_0 := bc2_0 BK1002; have hcz19_1 := bc2_1 BK1002; have hfz19_0 := bf_ BK1002 0; have hfz19_1 := bf_ BK1002 1) | (go_at_call 65; (with_reducible refine (spec_l2Name.calls k1 ((rd_T86 l0 x10_1).f0) true _ A6.out).mono ?_); rintro e w' ⟨rfl, ⟨nd, rfl⟩⟩; (try exact dd_)) | (go_at_call 66; (with_reducible refine (spec_l2Value.calls k1 ((rd_T86 l0 x10_1).f1) true _ A8.out).mono ?_); rintro e w' ⟨rfl, ⟨nd, rfl⟩⟩; (try exact dd_); have p1005 : 0 ≤ ((ji11) : Int) := od_; have q1005 : (ji11) < (l0.length : Int) := od_; obtain ⟨ad1005, e1005, hx1005_0, hx1005_1⟩ := at_T86 HR0.out (ji11) p1005 q1005; obtain rfl : ad1001 = ad1005 := (by injection e1005); have hn1005_0 : ad1001.block ≠ gb1002 := hb_ hx1005_0 GW1002; have hn1005_1 : ad1001.block ≠ gb1002 := hb_ hx1005_0 GW1002; replace hx1005_0 := kp_ HB hx1005_0; replace hx1005_1 := kp_ HB hx1005_1; replace hx1005_0 := cf_ gb1002 0 hn1005_0 (.string ((rd_T86 l0 x10_1).f0)) hx1005_0; replace hx1005_1 := cf_ gb1002 0 hn1005_0 (.string ((rd_T86 l0 x10_1).f0)) hx1005_1; replace hx1005_0 := cf_ gb1002 1 hn1005_1 (.string ((rd_T86 l0 x10_1).f1)) hx1005_0; replace hx1005_1 := cf_ gb1002 1 hn1005_1 (.string ((rd_T86 l0 x10_1).f1)) hx1005_1; (try have hy1005_0 := fun (n_ : Nat) => (show ((((w18.drewN n_).setCell ⟨gb1002, 0, none⟩ (.string ((rd_T86 l0 x10_1).f0))).setCell ⟨gb1002, 1, none⟩ (.string ((rd_T86 l0 x10_1).f1)))).cell? _ = some _ from hx1005_0)); (try have hy1005_1 := fun (n_ : Nat) => (show ((((w18.drewN n_).setCell ⟨gb1002, 0, none⟩ (.string ((rd_T86 l0 x10_1).f0))).setCell ⟨gb1002, 1, none⟩ (.string ((rd_T86 l0 x10_1).f1)))).cell? _ = some _ from hx1005_1)); clear hn1005_0; clear hn1005_1; replace p1005 := eq_true p1005; replace q1005 := eq_true q1005) | (go_at_call 115; (with_reducible refine (spec_l2CmpText.calls k1 ((rd_T86 l0 (ji11)).f0) ((rd_T86 l0 x10_1).f0) t1006 _ A14.out).mono ?_); rintro e w' ⟨rfl, ⟨nd, rfl⟩⟩; (try exact dd_))); try go_wp2_with (first | ((with_reducible refine gate_dst (N := 4) rfl ?_); refine box_event ?hg (N := 4) ?hd (cs := #[.string (⟨#[]⟩ : ByteArray), .string (⟨#[]⟩ : ByteArray)]) (t := 86) ?hr ?_; (case hd => rfl); (case hg => rfl); (case hr => first | (go_simp; done) | (go_simp; rfl)); intro gb1002 hg w18 hbox hb; have n0_ := am_ (below_step bl_ hb); have n1_ := am_ (hbox); have n2_ := am_ (gs_ hg : w.heap.size ≤ gb1002); have n3_ := n2_; clear HB; have HB := n0_; have BK1002 := n1_; have GW1002 := n2_; have GE1002 := n3_; clear n0_ n1_ n2_ n3_; clear hb hbox hg; have hcz19_0 := bc2_0 BK1002; have hcz19_1 := bc2_1 BK1002; have hfz19_0 := bf_ BK1002 0; have hfz19_1 := bf_ BK1002 1) | (go_at_call 65; (with_reducible refine (spec_l2Name.calls k1 ((rd_T86 l0 x10_1).f0) true _ A6.out).mono ?_); rintro e w' ⟨rfl, ⟨nd, rfl⟩⟩; (try exact dd_)) | (go_at_call 66; (with_reducible refine (spec_l2Value.calls k1 ((rd_T86 l0 x10_1).f1) true _ A8.out).mono ?_); rintro e w' ⟨rfl, ⟨nd, rfl⟩⟩; (try exact dd_); have p1005 : 0 ≤ ((ji11) : Int) := od_; have q1005 : (ji11) < (l0.length : Int) := od_; obtain ⟨ad1005, e1005, hx1005_0, hx1005_1⟩ := at_T86 HR0.out (ji11) p1005 q1005; obtain rfl : ad1001 = ad1005 := (by injection e1005); have hn1005_0 : ad1001.block ≠ gb1002 := hb_ hx1005_0 GW1002; have hn1005_1 : ad1001.block ≠ gb1002 := hb_ hx1005_0 GW1002; replace hx1005_0 := kp_ HB hx1005_0; replace hx1005_1 := kp_ HB hx1005_1; replace hx1005_0 := cf_ gb1002 0 hn1005_0 (.string ((rd_T86 l0 x10_1).f0)) hx1005_0; replace hx1005_1 := cf_ gb1002 0 hn1005_0 (.string ((rd_T86 l0 x10_1).f0)) hx1005_1; replace hx1005_0 := cf_ gb1002 1 hn1005_1 (.string ((rd_T86 l0 x10_1).f1)) hx1005_0; replace hx1005_1 := cf_ gb1002 1 hn1005_1 (.string ((rd_T86 l0 x10_1).f1)) hx1005_1; (try have hy1005_0 := fun (n_ : Nat) => (show ((((w18.drewN n_).setCell ⟨gb1002, 0, none⟩ (.string ((rd_T86 l0 x10_1).f0))).setCell ⟨gb1002, 1, none⟩ (.string ((rd_T86 l0 x10_1).f1)))).cell? _ = some _ from hx1005_0)); (try have hy1005_1 := fun (n_ : Nat) => (show ((((w18.drewN n_).setCell ⟨gb1002, 0, none⟩ (.string ((rd_T86 l0 x10_1).f0))).setCell ⟨gb1002, 1, none⟩ (.string ((rd_T86 l0 x10_1).f1)))).cell? _ = some _ from hx1005_1)); clear hn1005_0; clear hn1005_1; replace p1005 := eq_true p1005; replace q1005 := eq_true q1005) | (go_at_call 115; (with_reducible refine (spec_l2CmpText.calls k1 ((rd_T86 l0 (ji11)).f0) ((rd_T86 l0 x10_1).f0) t1006 _ A14.out).mono ?_); rintro e w' ⟨rfl, ⟨nd, rfl⟩⟩; (try exact dd_))))
             go_roundg k1
             case measure => have := HK1.out; omega
             case rel => exact ⟨(wrap64 (x10_1 + 1)), rs_, H', ⟨by have := HK1.out; omega⟩, ⟨bg_⟩⟩
           ·rw [if_neg c13] at H
            exact absurd H (by simp)
          ·rw [if_neg c12] at H
           exact absurd H (by simp)
         ·rw [if_neg c10] at H
          have c10b0 : decide (0 < x10_1) = false := decide_eq_false c10
          clear c10
          have H' := am_ H
          clear H
          have p1001 : 0 ≤ (x10_1 : Int) := od_
          have q1001 : x10_1 < (l0.length : Int) := od_
          obtain ⟨ad1001, e1001, hx1001_0, hx1001_1⟩ := at_T86 HR0.out x10_1 p1001 q1001
          cases e1001
          replace hx1001_0 := kp_ HB hx1001_0
          replace hx1001_1 := kp_ HB hx1001_1
          replace p1001 := eq_true p1001
          replace q1001 := eq_true q1001
          go_wp2_with (first | ((with_reducible refine gate_dst (N := 4) rfl ?_); refine box_event ?hg (N := 4) ?hd (cs := #[.string (⟨#[]⟩ : ByteArray), .string (⟨#[]⟩ : ByteArray)]) (t := 86) ?hr ?_; (case hd => rfl); (case hg => rfl); (case hr => first | (go_simp; done) | (go_simp; rfl)); intro gb1002 hg w20 hbox hb; have n0_ := am_ (below_step bl_ hb); have n1_ := am_ (hbox); have n2_ := am_ (gs_ hg : w.heap.size ≤ gb1002); have n3_ := n2_; clear HB; have HB := n0_; have BK1002 := n1_; have GW1002 := n2_; have GE1002 := n3_; clear n0_ n1_ n2_ n3_; clear hb hbox hg; have hcz21_0 := bc2_0 BK1002; have hcz21_1 := bc2_1 BK1002; have hfz21_0 := bf_ BK1002 0; have hfz21_1 := bf_ BK1002 1) | (go_at_call 65; (with_reducible refine (spec_l2Name.calls k1 ((rd_T86 l0 x10_1).f0) true _ A6.out).mono ?_); rintro e w' ⟨rfl, ⟨nd, rfl⟩⟩; (try exact dd_)) | (go_at_call 66; (with_reducible refine (spec_l2Value.calls k1 ((rd_T86 l0 x10_1).f1) true _ A8.out).mono ?_); rintro e w' ⟨rfl, ⟨nd, rfl⟩⟩; (try exact dd_)))
          repeat (go_quiet (first | ((with_reducible refine gate_dst (N := 4) rfl ?_); refine box_event ?hg (N := 4) ?hd (cs := #[.string (⟨#[]⟩ : ByteArray), .string (⟨#[]⟩ : ByteArray)]) (t := 86) ?hr ?_; (case hd => rfl); (case hg => rfl); (case hr => first | (go_simp; done) | (go_simp; rfl)); intro gb1002 hg w20 hbox hb; have n0_ := am_ (below_step bl_ hb); have n1_ := am_ (hbox); have n2_ := am_ (gs_ hg : w.heap.size ≤ gb1002); have n3_ := n2_; clear HB; have HB := n0_; have BK1002 := n1_; have GW1002 := n2_; have GE1002 := n3_; clear n0_ n1_ n2_ n3_; clear hb hbox hg; have hcz21_0 := bc2_0 BK1002; have hcz21_1 := bc2_1 BK1002; have hfz21_0 := bf_ BK1002 0; have hfz21_1 := bf_ BK1002 1) | (go_at_call 65; (with_reducible refine (spec_l2Name.calls k1 ((rd_T86 l0 x10_1).f0) true _ A6.out).mono ?_); rintro e w' ⟨rfl, ⟨nd, rfl⟩⟩; (try exact dd_)) | (go_at_call 66; (with_reducible refine (spec_l2Value.calls k1 ((rd_T86 l0 x10_1).f1) true _ A8.out).mono ?_); rintro e w' ⟨rfl, ⟨nd, rfl⟩⟩; (try exact dd_))); try go_wp2_with (first | ((with_reducible refine gate_dst (N := 4) rfl ?_); refine box_event ?hg (N := 4) ?hd (cs := #[.string (⟨#[]⟩ : ByteArray), .string (⟨#[]⟩ : ByteArray)]) (t := 86) ?hr ?_; (case hd => rfl); (case hg => rfl); (case hr => first | (go_simp; done) | (go_simp; rfl)); intro gb1002 hg w20 hbox hb; have n0_ := am_ (below_step bl_ hb); have n1_ := am_ (hbox); have n2_ := am_ (gs_ hg : w.heap.size ≤ gb1002); have n3_ := n2_; clear HB; have HB := n0_; have BK1002 := n1_; have GW1002 := n2_; have GE1002 := n3_; clear n0_ n1_ n2_ n3_; clear hb hbox hg; have hcz21_0 := bc2_0 BK1002; have hcz21_1 := bc2_1 BK1002; have hfz21_0 := bf_ BK1002 0; have hfz21_1 := bf_ BK1002 1) | (go_at_call 65; (with_reducible refine (spec_l2Name.calls k1 ((rd_T86 l0 x10_1).f0) true _ A6.out).mono ?_); rintro e w' ⟨rfl, ⟨nd, rfl⟩⟩; (try exact dd_)) | (go_at_call 66; (with_reducible refine (spec_l2Value.calls k1 ((rd_T86 l0 x10_1).f1) true _ A8.out).mono ?_); rintro e w' ⟨rfl, ⟨nd, rfl⟩⟩; (try exact dd_))))
          go_roundg k1
          case measure => have := HK1.out; omega
          case rel => exact ⟨(wrap64 (x10_1 + 1)), rs_, H', ⟨by have := HK1.out; omega⟩, ⟨bg_⟩⟩
        ·replace c9 := Bool.eq_false_iff.mpr c9
         subst c9
         have H1 : (some false) = some r := by rw [if_neg (show ¬ (false = true) by decide)] at H; exact H
         clear H
         have H := H1
         clear H1
         obtain rfl := Option.some.inj H
         have p1001 : 0 ≤ (x10_1 : Int) := od_
         have q1001 : x10_1 < (l0.length : Int) := od_
         obtain ⟨ad1001, e1001, hx1001_0, hx1001_1⟩ := at_T86 HR0.out x10_1 p1001 q1001
         cases e1001
         replace hx1001_0 := kp_ HB hx1001_0
         replace hx1001_1 := kp_ HB hx1001_1
         replace p1001 := eq_true p1001
         replace q1001 := eq_true q1001
         go_wp2_with (first | ((with_reducible refine gate_dst (N := 4) rfl ?_); refine box_event ?hg (N := 4) ?hd (cs := #[.string (⟨#[]⟩ : ByteArray), .string (⟨#[]⟩ : ByteArray)]) (t := 86) ?hr ?_; (case hd => rfl); (case hg => rfl); (case hr => first | (go_simp; done) | (go_simp; rfl)); intro gb1002 hg w22 hbox hb; have n0_ := am_ (below_step bl_ hb); have n1_ := am_ (hbox); have n2_ := am_ (gs_ hg : w.heap.size ≤ gb1002); have n3_ := n2_; clear HB; have HB := n0_; have BK1002 := n1_; have GW1002 := n2_; have GE1002 := n3_; clear n0_ n1_ n2_ n3_; clear hb hbox hg; have hcz23_0 := bc2_0 BK1002; have hcz23_1 := bc2_1 BK1002; have hfz23_0 := bf_ BK1002 0; have hfz23_1 := bf_ BK1002 1) | (go_at_call 65; (with_reducible refine (spec_l2Name.calls k1 ((rd_T86 l0 x10_1).f0) true _ A6.out).mono ?_); rintro e w' ⟨rfl, ⟨nd, rfl⟩⟩; (try exact dd_)) | (go_at_call 66; (with_reducible refine (spec_l2Value.calls k1 ((rd_T86 l0 x10_1).f1) false _ A8.out).mono ?_); rintro e w' ⟨rfl, ⟨nd, rfl⟩⟩; (try exact dd_)))
         repeat (go_quiet (first | ((with_reducible refine gate_dst (N := 4) rfl ?_); refine box_event ?hg (N := 4) ?hd (cs := #[.string (⟨#[]⟩ : ByteArray), .string (⟨#[]⟩ : ByteArray)]) (t := 86) ?hr ?_; (case hd => rfl); (case hg => rfl); (case hr => first | (go_simp; done) | (go_simp; rfl)); intro gb1002 hg w22 hbox hb; have n0_ := am_ (below_step bl_ hb); have n1_ := am_ (hbox); have n2_ := am_ (gs_ hg : w.heap.size ≤ gb1002); have n3_ := n2_; clear HB; have HB := n0_; have BK1002 := n1_; have GW1002 := n2_; have GE1002 := n3_; clear n0_ n1_ n2_ n3_; clear hb hbox hg; have hcz23_0 := bc2_0 BK1002; have hcz23_1 := bc2_1 BK1002; have hfz23_0 := bf_ BK1002 0; have hfz23_1 := bf_ BK1002 1) | (go_at_call 65; (with_reducible refine (spec_l2Name.calls k1 ((rd_T86 l0 x10_1).f0) true _ A6.out).mono ?_); rintro e w' ⟨rfl, ⟨nd, rfl⟩⟩; (try exact dd_)) | (go_at_call 66; (with_reducible refine (spec_l2Value.calls k1 ((rd_T86 l0 x10_1).f1) false _ A8.out).mono ?_); rintro e w' ⟨rfl, ⟨nd, rfl⟩⟩; (try exact dd_))); try go_wp2_with (first | ((with_reducible refine gate_dst (N := 4) rfl ?_); refine box_event ?hg (N := 4) ?hd (cs := #[.string (⟨#[]⟩ : ByteArray), .string (⟨#[]⟩ : ByteArray)]) (t := 86) ?hr ?_; (case hd => rfl); (case hg => rfl); (case hr => first | (go_simp; done) | (go_simp; rfl)); intro gb1002 hg w22 hbox hb; have n0_ := am_ (below_step bl_ hb); have n1_ := am_ (hbox); have n2_ := am_ (gs_ hg : w.heap.size ≤ gb1002); have n3_ := n2_; clear HB; have HB := n0_; have BK1002 := n1_; have GW1002 := n2_; have GE1002 := n3_; clear n0_ n1_ n2_ n3_; clear hb hbox hg; have hcz23_0 := bc2_0 BK1002; have hcz23_1 := bc2_1 BK1002; have hfz23_0 := bf_ BK1002 0; have hfz23_1 := bf_ BK1002 1) | (go_at_call 65; (with_reducible refine (spec_l2Name.calls k1 ((rd_T86 l0 x10_1).f0) true _ A6.out).mono ?_); rintro e w' ⟨rfl, ⟨nd, rfl⟩⟩; (try exact dd_)) | (go_at_call 66; (with_reducible refine (spec_l2Value.calls k1 ((rd_T86 l0 x10_1).f1) false _ A8.out).mono ?_); rintro e w' ⟨rfl, ⟨nd, rfl⟩⟩; (try exact dd_))))
         go_ret
         exact ⟨rf_, bg_⟩
       ·replace c7 := Bool.eq_false_iff.mpr c7
        subst c7
        have H1 : (some false) = some r := by rw [if_neg (show ¬ (false = true) by decide)] at H; exact H
        clear H
        have H := H1
        clear H1
        obtain rfl := Option.some.inj H
        have p1001 : 0 ≤ (x10_1 : Int) := od_
        have q1001 : x10_1 < (l0.length : Int) := od_
        obtain ⟨ad1001, e1001, hx1001_0, hx1001_1⟩ := at_T86 HR0.out x10_1 p1001 q1001
        cases e1001
        replace hx1001_0 := kp_ HB hx1001_0
        replace hx1001_1 := kp_ HB hx1001_1
        replace p1001 := eq_true p1001
        replace q1001 := eq_true q1001
        go_wp2_with (first | ((with_reducible refine gate_dst (N := 4) rfl ?_); refine box_event ?hg (N := 4) ?hd (cs := #[.string (⟨#[]⟩ : ByteArray), .string (⟨#[]⟩ : ByteArray)]) (t := 86) ?hr ?_; (case hd => rfl); (case hg => rfl); (case hr => first | (go_simp; done) | (go_simp; rfl)); intro gb1002 hg w24 hbox hb; have n0_ := am_ (below_step bl_ hb); have n1_ := am_ (hbox); have n2_ := am_ (gs_ hg : w.heap.size ≤ gb1002); have n3_ := n2_; clear HB; have HB := n0_; have BK1002 := n1_; have GW1002 := n2_; have GE1002 := n3_; clear n0_ n1_ n2_ n3_; clear hb hbox hg; have hcz25_0 := bc2_0 BK1002; have hcz25_1 := bc2_1 BK1002; have hfz25_0 := bf_ BK1002 0; have hfz25_1 := bf_ BK1002 1) | (go_at_call 65; (with_reducible refine (spec_l2Name.calls k1 ((rd_T86 l0 x10_1).f0) false _ A6.out).mono ?_); rintro e w' ⟨rfl, ⟨nd, rfl⟩⟩; (try exact dd_)))
        repeat (go_quiet (first | ((with_reducible refine gate_dst (N := 4) rfl ?_); refine box_event ?hg (N := 4) ?hd (cs := #[.string (⟨#[]⟩ : ByteArray), .string (⟨#[]⟩ : ByteArray)]) (t := 86) ?hr ?_; (case hd => rfl); (case hg => rfl); (case hr => first | (go_simp; done) | (go_simp; rfl)); intro gb1002 hg w24 hbox hb; have n0_ := am_ (below_step bl_ hb); have n1_ := am_ (hbox); have n2_ := am_ (gs_ hg : w.heap.size ≤ gb1002); have n3_ := n2_; clear HB; have HB := n0_; have BK1002 := n1_; have GW1002 := n2_; have GE1002 := n3_; clear n0_ n1_ n2_ n3_; clear hb hbox hg; have hcz25_0 := bc2_0 BK1002; have hcz25_1 := bc2_1 BK1002; have hfz25_0 := bf_ BK1002 0; have hfz25_1 := bf_ BK1002 1) | (go_at_call 65; (with_reducible refine (spec_l2Name.calls k1 ((rd_T86 l0 x10_1).f0) false _ A6.out).mono ?_); rintro e w' ⟨rfl, ⟨nd, rfl⟩⟩; (try exact dd_))); try go_wp2_with (first | ((with_reducible refine gate_dst (N := 4) rfl ?_); refine box_event ?hg (N := 4) ?hd (cs := #[.string (⟨#[]⟩ : ByteArray), .string (⟨#[]⟩ : ByteArray)]) (t := 86) ?hr ?_; (case hd => rfl); (case hg => rfl); (case hr => first | (go_simp; done) | (go_simp; rfl)); intro gb1002 hg w24 hbox hb; have n0_ := am_ (below_step bl_ hb); have n1_ := am_ (hbox); have n2_ := am_ (gs_ hg : w.heap.size ≤ gb1002); have n3_ := n2_; clear HB; have HB := n0_; have BK1002 := n1_; have GW1002 := n2_; have GE1002 := n3_; clear n0_ n1_ n2_ n3_; clear hb hbox hg; have hcz25_0 := bc2_0 BK1002; have hcz25_1 := bc2_1 BK1002; have hfz25_0 := bf_ BK1002 0; have hfz25_1 := bf_ BK1002 1) | (go_at_call 65; (with_reducible refine (spec_l2Name.calls k1 ((rd_T86 l0 x10_1).f0) false _ A6.out).mono ?_); rintro e w' ⟨rfl, ⟨nd, rfl⟩⟩; (try exact dd_))))
        go_ret
        exact ⟨rf_, bg_⟩
      ·rw [if_neg c5] at H
       exact absurd H (by simp)
     ·rw [if_neg c4] at H
      exact absurd H (by simp)
    ·rw [if_neg c3] at H
     have c3b0 : decide (x10_1 < (l0.length : Int)) = false := decide_eq_false c3
     clear c3
     obtain rfl := Option.some.inj H
     go_wp2
     repeat (go_quiet (fail); try go_wp2)
     go_ret
     exact ⟨rf_, bl_⟩

/-! ### impl_isValue: function 71 -/
def impl_isValue.f (k : Nat) (a0 : ByteArray) : Option (Bool) := if a0.toList = ([] : List UInt8) then (some false) else ((impl_printed.f k a0 100).bind fun t1001 => (some t1001))
theorem impl_isValue.mono : ∀ a0 k, LeO (impl_isValue.f k a0) (impl_isValue.f (k + 1) a0) := by
 intro a0 k
 unfold impl_isValue.f
 repeat' first
   | with_reducible first | exact impl_printed.mono _ _ _ | exact LeO.refl _ | exact LeO.none _ | refine LeO.ite ?_ ?_ | refine LeO.bind ?_ (fun _ => ?_)
   | exact impl_printed.mono _ _ _
   | exact LeO.none _
   | refine LeO.ite ?_ ?_
   | refine LeO.bind ?_ (fun _ => ?_)
set_option maxHeartbeats 8000000 in
set_option maxRecDepth 100000 in
theorem impl_isValue.calls (k : Nat) (a0 : ByteArray) (r : Bool) (w : World) (h : impl_isValue.f k a0 = some r) :
  Calls Try.prog 71 #[.string a0] w fun e w' => e = .returned (.bool r) ∧ Drawn0 w w' := by
 have H : (if a0.toList = ([] : List UInt8) then (some false) else ((impl_printed.f k a0 100).bind fun t1001 => (some t1001))) = some r := h
 clear h
 by_cases c2 : a0.toList = ([] : List UInt8)
 ·rw [if_pos c2] at H
  have c2b0 : (a0.toList == ([] : List UInt8)) = true := beq_iff_eq.mpr c2
  have c2b1 : (a0.toList != ([] : List UInt8)) = false := bne_eq_false_iff_eq.mpr c2
  clear c2
  obtain rfl := Option.some.inj H
  go_enter Try.func71, Try.ntmps71
  go_wp2
  go_ret
  exact ⟨by first | rfl | (simp; done) | (simp [*]; done), by repeat (first | exact Drawn0.refl _ | apply Drawn0.step)⟩
 ·rw [if_neg c2] at H
  have c2b0 : (a0.toList == ([] : List UInt8)) = false := beq_eq_false_iff_ne.mpr c2
  have c2b1 : (a0.toList != ([] : List UInt8)) = true := bne_iff_ne.mpr c2
  replace H := Option.bind_eq_some_iff.mp H
  obtain ⟨t1001, A30, H⟩ := H
  replace H : (some t1001) = some r := H
  have A3 := am_ A30
  clear A30
  obtain rfl := Option.some.inj H
  go_enter Try.func71, Try.ntmps71
  go_wp2_with (first | (go_at_call 86; (with_reducible refine (impl_printed.calls k a0 100 t1001 _ A3.out).mono ?_); rintro e w' ⟨rfl, ⟨nd, rfl⟩⟩))
  go_ret
  exact ⟨by first | rfl | (simp; done) | (simp [*]; done), by repeat (first | exact Drawn0.refl _ | apply Drawn0.step)⟩

/-! ### impl_GoodLabels: function 69 -/
def impl_GoodLabels.l0 : Nat → List (S86) → List (S86) → Int → Int → Option (Bool)
 | 0, _, _, _, _ => none
 | k + 1, x0, x8, x9, x10 => if x10 < x9 then (if 0 ≤ x10 then (if x10 < (x8.length : Int) then ((impl_isName.f k ((rd_T86 x8 x10).f0)).bind fun t1003 => (if t1003 = true then ((impl_isValue.f k ((rd_T86 x8 x10).f1)).bind fun t1004 => (if t1004 = true then (if x10 > 0 then (if 0 ≤ (wrap64 (x10 - 1)) then (if (wrap64 (x10 - 1)) < (x0.length : Int) then (if ((Op.bytesLess (((rd_T86 x0 (wrap64 (x10 - 1))).f0).toList) (((rd_T86 x8 x10).f0).toList)) = true) then (impl_GoodLabels.l0 k x0 x8 x9 (wrap64 (x10 + 1))) else (some false)) else (none)) else (none)) else (impl_GoodLabels.l0 k x0 x8 x9 (wrap64 (x10 + 1)))) else (some false))) else (some false))) else (none)) else (none)) else (some true)
def impl_GoodLabels.f (k : Nat) (l0 : List (S86)) : Option (Bool) := if (l0.length : Int) > 20 then (some false) else (impl_GoodLabels.l0 k l0 l0 (l0.length : Int) 0)
theorem impl_GoodLabels.mono_l : ∀ k, (∀ y0 y1 y2 y3, LeO (impl_GoodLabels.l0 k y0 y1 y2 y3) (impl_GoodLabels.l0 (k + 1) y0 y1 y2 y3))
 | 0 => fun _ _ _ _ r h => by simp [impl_GoodLabels.l0] at h
 | k + 1 => by
  have ih0 := impl_GoodLabels.mono_l k
  ·intro y0 y1 y2 y3
   unfold impl_GoodLabels.l0
   repeat' first
   | with_reducible first | exact ih0 _ _ _ _ | exact impl_isName.mono _ _ | exact impl_isValue.mono _ _ | exact LeO.refl _ | exact LeO.none _ | refine LeO.ite ?_ ?_ | refine LeO.bind ?_ (fun _ => ?_)
   | exact ih0 _ _ _ _
   | exact impl_isName.mono _ _
   | exact impl_isValue.mono _ _
   | exact LeO.none _
   | refine LeO.ite ?_ ?_
   | refine LeO.bind ?_ (fun _ => ?_)
theorem impl_GoodLabels.mono : ∀ a0 k, LeO (impl_GoodLabels.f k a0) (impl_GoodLabels.f (k + 1) a0) := by
 intro a0 k
 have ih0 := impl_GoodLabels.mono_l k
 unfold impl_GoodLabels.f
 repeat' first
   | with_reducible first | exact ih0 _ _ _ _ | exact impl_isName.mono _ _ | exact impl_isValue.mono _ _ | exact LeO.refl _ | exact LeO.none _ | refine LeO.ite ?_ ?_ | refine LeO.bind ?_ (fun _ => ?_)
   | exact ih0 _ _ _ _
   | exact impl_isName.mono _ _
   | exact impl_isValue.mono _ _
   | exact LeO.none _
   | refine LeO.ite ?_ ?_
   | refine LeO.bind ?_ (fun _ => ?_)
set_option maxHeartbeats 8000000 in
set_option maxRecDepth 100000 in
theorem impl_GoodLabels.calls (k : Nat) (A0 : Option Addr) (c0 : Nat) (l0 : List (S86)) (r : Bool) (w : World) (hr0 : Kd.C k86 w A0 l0.length l0) (hc0 : l0.length ≤ c0) (h : impl_GoodLabels.f k l0 = some r) :
  Calls Try.prog 69 #[.slice A0 l0.length c0] w fun e w' => e = .returned (.bool r) ∧ Below w.heap.size w w' := by
 have hu86 := Try.underlying86
 have HR0 := am_ hr0
 have HC0 := am_ hc0
 clear hr0 hc0
 have HB := am_ (Below.refl w.heap.size w)
 have H : (if (l0.length : Int) > 20 then (some false) else (impl_GoodLabels.l0 k l0 l0 (l0.length : Int) 0)) = some r := h
 clear h
 by_cases c2 : (l0.length : Int) > 20
 ·rw [if_pos c2] at H
  have c2b0 : decide (20 < (l0.length : Int)) = true := decide_eq_true c2
  have c2b1 : decide (20 < l0.length) = true := decide_eq_true (by omega)
  clear c2
  obtain rfl := Option.some.inj H
  go_enter Try.func69, Try.ntmps69
  go_wp2
  repeat (go_quiet (fail); try go_wp2)
  go_ret
  exact ⟨rf_, bl_⟩
 ·rw [if_neg c2] at H
  have c2b0 : decide (20 < (l0.length : Int)) = false := decide_eq_false c2
  have c2b1 : decide (20 < l0.length) = false := decide_eq_false (by omega)
  clear c2
  have H' := am_ H
  clear H
  go_enter Try.func69, Try.ntmps69
  go_wp2
  repeat (go_quiet (fail); try go_wp2)
  go_loopg [10] k (fun kq v10 w' => ∃ (x10_1 : Int), v10 = .int .i64 x10_1 ∧ Aside0 (impl_GoodLabels.l0 kq l0 l0 (l0.length : Int) x10_1 = some r) ∧ Aside0 (kq ≤ k) ∧ Aside0 (Below w.heap.size w w'))
  case atStart => exact ⟨(0), rs_, H', ⟨Nat.le_refl _⟩, ⟨bl_⟩⟩
  case round =>
   clear H'
   try clear c2
   try clear c2b0
   try clear c2b1
   try clear p2
   obtain ⟨x10_1, rfl, HA, HK1, HB⟩ := hrel
   cases gk with
   | zero => exact absurd HA.out (by simp [impl_GoodLabels.l0])
   | succ k1 =>
    have H := HA.out
    clear HA
    simp only [impl_GoodLabels.l0] at H
    by_cases c3 : x10_1 < (l0.length : Int)
    ·rw [if_pos c3] at H
     have c3b0 : decide (x10_1 < (l0.length : Int)) = true := decide_eq_true c3
     clear c3
     by_cases c4 : 0 ≤ x10_1
     ·rw [if_pos c4] at H
      have c4b0 : decide (0 ≤ x10_1) = true := decide_eq_true c4
      clear c4
      by_cases c5 : x10_1 < (l0.length : Int)
      ·rw [if_pos c5] at H
       have c5b0 : decide (x10_1 < (l0.length : Int)) = true := decide_eq_true c5
       clear c5
       replace H := Option.bind_eq_some_iff.mp H
       obtain ⟨t1003, A60, H⟩ := H
       replace H : (if t1003 = true then ((impl_isValue.f k1 ((rd_T86 l0 x10_1).f1)).bind fun t1004 => (if t1004 = true then (if x10_1 > 0 then (if 0 ≤ (wrap64 (x10_1 - 1)) then (if (wrap64 (x10_1 - 1)) < (l0.length : Int) then (if ((Op.bytesLess (((rd_T86 l0 (wrap64 (x10_1 - 1))).f0).toList) (((rd_T86 l0 x10_1).f0).toList)) = true) then (impl_GoodLabels.l0 k1 l0 l0 (l0.length : Int) (wrap64 (x10_1 + 1))) else (some false)) else (none)) else (none)) else (impl_GoodLabels.l0 k1 l0 l0 (l0.length : Int) (wrap64 (x10_1 + 1)))) else (some false))) else (some false)) = some r := H
       have A6 := am_ A60
       clear A60
       by_cases c7 : t1003 = true
       ·subst c7
        have H1 : ((impl_isValue.f k1 ((rd_T86 l0 x10_1).f1)).bind fun t1004 => (if t1004 = true then (if x10_1 > 0 then (if 0 ≤ (wrap64 (x10_1 - 1)) then (if (wrap64 (x10_1 - 1)) < (l0.length : Int) then (if ((Op.bytesLess (((rd_T86 l0 (wrap64 (x10_1 - 1))).f0).toList) (((rd_T86 l0 x10_1).f0).toList)) = true) then (impl_GoodLabels.l0 k1 l0 l0 (l0.length : Int) (wrap64 (x10_1 + 1))) else (some false)) else (none)) else (none)) else (impl_GoodLabels.l0 k1 l0 l0 (l0.length : Int) (wrap64 (x10_1 + 1)))) else (some false))) = some r := by rw [if_pos rfl] at H; exact H
        clear H
        have H := H1
        clear H1
        replace H := Option.bind_eq_some_iff.mp H
        obtain ⟨t1004, A80, H⟩ := H
        replace H : (if t1004 = true then (if x10_1 > 0 then (if 0 ≤ (wrap64 (x10_1 - 1)) then (if (wrap64 (x10_1 - 1)) < (l0.length : Int) then (if ((Op.bytesLess (((rd_T86 l0 (wrap64 (x10_1 - 1))).f0).toList) (((rd_T86 l0 x10_1).f0).toList)) = true) then (impl_GoodLabels.l0 k1 l0 l0 (l0.length : Int) (wrap64 (x10_1 + 1))) else (some false)) else (none)) else (none)) else (impl_GoodLabels.l0 k1 l0 l0 (l0.length : Int) (wrap64 (x10_1 + 1)))) else (some false)) = some r := H
        have A8 := am_ A80
        clear A80
        by_cases c9 : t1004 = true
        ·subst c9
         have H1 : (if x10_1 > 0 then (if 0 ≤ (wrap64 (x10_1 - 1)) then (if (wrap64 (x10_1 - 1)) < (l0.length : Int) then (if ((Op.bytesLess (((rd_T86 l0 (wrap64 (x10_1 - 1))).f0).toList) (((rd_T86 l0 x10_1).f0).toList)) = true) then (impl_GoodLabels.l0 k1 l0 l0 (l0.length : Int) (wrap64 (x10_1 + 1))) else (some false)) else (none)) else (none)) else (impl_GoodLabels.l0 k1 l0 l0 (l0.length : Int) (wrap64 (x10_1 + 1)))) = some r := by rw [if_pos rfl] at H; exact H
         clear H
         have H := H1
         clear H1
         by_cases c10 : x10_1 > 0
         ·rw [if_pos c10] at H
          have c10b0 : decide (0 < x10_1) = true := decide_eq_true c10
          clear c10
          obtain ⟨ji11, hji11⟩ : ∃ j_ : Int, (wrap64 (x10_1 - 1)) = j_ := ⟨_, rfl⟩
          replace H : (if 0 ≤ (ji11) then (if (ji11) < (l0.length : Int) then (if ((Op.bytesLess (((rd_T86 l0 (ji11)).f0).toList) (((rd_T86 l0 x10_1).f0).toList)) = true) then (impl_GoodLabels.l0 k1 l0 l0 (l0.length : Int) (wrap64 (x10_1 + 1))) else (some false)) else (none)) else (none)) = some r := by first | (rw [hji11] at H; exact H) | (simp only [hji11] at H ⊢; exact H)
          (try rw [hji11] at A6)
          (try rw [hji11] at A8)
          have hji11w : (IntKind.i64.wrap (x10_1 - 1)) = ji11 := (i64_w _).trans hji11
          by_cases c12 : 0 ≤ (ji11)
          ·rw [if_pos c12] at H
           have c12b0 : decide (0 ≤ (ji11)) = true := decide_eq_true c12
           clear c12
           by_cases c13 : (ji11) < (l0.length : Int)
           ·rw [if_pos c13] at H
            have c13b0 : decide ((ji11) < (l0.length : Int)) = true := decide_eq_true c13
            clear c13
            by_cases c14 : ((Op.bytesLess (((rd_T86 l0 (ji11)).f0).toList) (((rd_T86 l0 x10_1).f0).toList)) = true)
            ·rw [if_pos c14] at H
             have c14b0 : (Op.bytesLess (((rd_T86 l0 (ji11)).f0).toList) (((rd_T86 l0 x10_1).f0).toList)) = true := c14
             clear c14
             have H' := am_ H
             clear H
             have p1001 : 0 ≤ (x10_1 : Int) := od_
             have q1001 : x10_1 < (l0.length : Int) := od_
             obtain ⟨ad1001, e1001, hx1001_0, hx1001_1⟩ := at_T86 HR0.out x10_1 p1001 q1001
             cases e1001
             replace hx1001_0 := kp_ HB hx1001_0
             replace hx1001_1 := kp_ HB hx1001_1
             replace p1001 := eq_true p1001
             replace q1001 := eq_true q1001
             go_wp2_with (first | ((with_reducible refine gate_dst (N := 4) rfl ?_); refine box_event ?hg (N := 4) ?hd (cs := #[.string (⟨#[]⟩ : ByteArray), .string (⟨#[]⟩ : ByteArray)]) (t := 86) ?hr ?_; (case hd => rfl); (case hg => rfl); (case hr => first | (go_simp; done) | (go_simp; rfl)); intro gb1002 hg w15 hbox hb; have n0_ := am_ (below_step bl_ hb); have n1_ := am_ (hbox); have n2_ := am_ (gs_ hg : w.heap.size ≤ gb1002); have n3_ := n2_; clear HB; have HB := n0_; have BK1002 := n1_; have GW1002 := n2_; have GE1002 := n3_; clear n0_ n1_ n2_ n3_; clear hb hbox hg; have hcz16_0 := bc2_0 BK1002; have hcz16_1 := bc2_1 BK1002; have hfz16_0 := bf_ BK1002 0; have hfz16_1 := bf_ BK1002 1) | (go_at_call 70; (with_reducible refine (impl_isName.calls k1 ((rd_T86 l0 x10_1).f0) true _ A6.out).mono ?_); rintro e w' ⟨rfl, ⟨nd, rfl⟩⟩; (try exact dd_)) | (go_at_call 71; (with_reducible refine (impl_isValue.calls k1 ((rd_T86 l0 x10_1).f1) true _ A8.out).mono ?_); rintro e w' ⟨rfl, ⟨nd, rfl⟩⟩; (try exact dd_); have p1005 : 0 ≤ ((ji11) : Int) := od_; have q1005 : (ji11) < (l0.length : Int) := od_; obtain ⟨ad1005, e1005, hx1005_0, hx1005_1⟩ := at_T86 HR0.out (ji11) p1005 q1005; obtain rfl : ad1001 = ad1005 := (by injection e1005); have hn1005_0 : ad1001.block ≠ gb1002 := hb_ hx1005_0 GW1002; have hn1005_1 : ad1001.block ≠ gb1002 := hb_ hx1005_0 GW1002; replace hx1005_0 := kp_ HB hx1005_0; replace hx1005_1 := kp_ HB hx1005_1; replace hx1005_0 := cf_ gb1002 0 hn1005_0 (.string ((rd_T86 l0 x10_1).f0)) hx1005_0; replace hx1005_1 := cf_ gb1002 0 hn1005_0 (.string ((rd_T86 l0 x10_1).f0)) hx1005_1; replace hx1005_0 := cf_ gb1002 1 hn1005_1 (.string ((rd_T86 l0 x10_1).f1)) hx1005_0; replace hx1005_1 := cf_ gb1002 1 hn1005_1 (.string ((rd_T86 l0 x10_1).f1)) hx1005_1; (try have hy1005_0 := fun (n_ : Nat) => (show ((((w15.drewN n_).setCell ⟨gb1002, 0, none⟩ (.string ((rd_T86 l0 x10_1).f0))).setCell ⟨gb1002, 1, none⟩ (.string ((rd_T86 l0 x10_1).f1)))).cell? _ = some _ from hx1005_0)); (try have hy1005_1 := fun (n_ : Nat) => (show ((((w15.drewN n_).setCell ⟨gb1002, 0, none⟩ (.string ((rd_T86 l0 x10_1).f0))).setCell ⟨gb1002, 1, none⟩ (.string ((rd_T86 l0 x10_1).f1)))).cell? _ = some _ from hx1005_1)); clear hn1005_0; clear hn1005_1; replace p1005 := eq_true p1005; replace q1005 := eq_true q1005))
             repeat (go_quiet (first | ((with_reducible refine gate_dst (N := 4) rfl ?_); refine box_event ?hg (N := 4) ?hd (cs := #[.string (⟨#[]⟩ : ByteArray), .string (⟨#[]⟩ : ByteArray)]) (t := 86) ?hr ?_; (case hd => rfl); (case hg => rfl); (case hr => first | (go_simp; done) | (go_simp; rfl)); intro gb1002 hg w15 hbox hb; have n0_ := am_ (below_step bl_ hb); have n1_ := am_ (hbox); have n2_ := am_ (gs_ hg : w.heap.size ≤ gb1002); have n3_ := n2_; clear HB; have HB := n0_; have BK1002 := n1_; have GW1002 := n2_; have GE1002 := n3_; clear n0_ n1_ n2_ n3_; clear hb hbox hg; have hcz16_0 := bc2_0 BK1002; have hcz16_1 := bc2_1 BK1002; have hfz16_0 := bf_ BK1002 0; have hfz16_1 := bf_ BK1002 1) | (go_at_call 70; (with_reducible refine (impl_isName.calls k1 ((rd_T86 l0 x10_1).f0) true _ A6.out).mono ?_); rintro e w' ⟨rfl, ⟨nd, rfl⟩⟩; (try exact dd_)) | (go_at_call 71; (with_reducible refine (impl_isValue.calls k1 ((rd_T86 l0 x10_1).f1) true _ A8.out).mono ?_); rintro e w' ⟨rfl, ⟨nd, rfl⟩⟩; (try exact dd_); have p1005 : 0 ≤ ((ji11) : Int) := od_; have q1005 : (ji11) < (l0.length : Int) := od_; obtain ⟨ad1005, e1005, hx1005_0, hx1005_1⟩ := at_T86 HR0.out (ji11) p1005 q1005; obtain rfl : ad1001 = ad1005 := (by injection e1005); have hn1005_0 : ad1001.block ≠ gb1002 := hb_ hx1005_0 GW1002; have hn1005_1 : ad1001.block ≠ gb1002 := hb_ hx1005_0 GW1002; replace hx1005_0 := kp_ HB hx1005_0; replace hx1005_1 := kp_ HB hx1005_1; replace hx1005_0 := cf_ gb1002 0 hn1005_0 (.string ((rd_T86 l0 x10_1).f0)) hx1005_0; replace hx1005_1 := cf_ gb1002 0 hn1005_0 (.string ((rd_T86 l0 x10_1).f0)) hx1005_1; replace hx1005_0 := cf_ gb1002 1 hn1005_1 (.string ((rd_T86 l0 x10_1).f1)) hx1005_0; replace hx1005_1 := cf_ gb1002 1 hn1005_1 (.string ((rd_T86 l0 x10_1).f1)) hx1005_1; (try have hy1005_0 := fun (n_ : Nat) => (show ((((w15.drewN n_).setCell ⟨gb1002, 0, none⟩ (.string ((rd_T86 l0 x10_1).f0))).setCell ⟨gb1002, 1, none⟩ (.string ((rd_T86 l0 x10_1).f1)))).cell? _ = some _ from hx1005_0)); (try have hy1005_1 := fun (n_ : Nat) => (show ((((w15.drewN n_).setCell ⟨gb1002, 0, none⟩ (.string ((rd_T86 l0 x10_1).f0))).setCell ⟨gb1002, 1, none⟩ (.string ((rd_T86 l0 x10_1).f1)))).cell? _ = some _ from hx1005_1)); clear hn1005_0; clear hn1005_1; replace p1005 := eq_true p1005; replace q1005 := eq_true q1005)); try go_wp2_with (first | ((with_reducible refine gate_dst (N := 4) rfl ?_); refine box_event ?hg (N := 4) ?hd (cs := #[.string (⟨#[]⟩ : ByteArray), .string (⟨#[]⟩ : ByteArray)]) (t := 86) ?hr ?_; (case hd => rfl); (case hg => rfl); (case hr => first | (go_simp; done) | (go_simp; rfl)); intro gb1002 hg w15 hbox hb; have n0_ := am_ (below_step bl_ hb); have n1_ := am_ (hbox); have n2_ := am_ (gs_ hg : w.heap.size ≤ gb1002); have n3_ := n2_; clear HB; have HB := n0_; have BK1002 := n1_; have GW1002 := n2_; have GE1002 := n3_; clear n0_ n1_ n2_ n3_; clear hb hbox hg; have hcz16_0 := bc2_0 BK1002; have hcz16_1 := bc2_1 BK1002; have hfz16_0 := bf_ BK1002 0; have hfz16_1 := bf_ BK1002 1) | (go_at_call 70; (with_reducible refine (impl_isName.calls k1 ((rd_T86 l0 x10_1).f0) true _ A6.out).mono ?_); rintro e w' ⟨rfl, ⟨nd, rfl⟩⟩; (try exact dd_)) | (go_at_call 71; (with_reducible refine (impl_isValue.calls k1 ((rd_T86 l0 x10_1).f1) true _ A8.out).mono ?_); rintro e w' ⟨rfl, ⟨nd, rfl⟩⟩; (try exact dd_); have p1005 : 0 ≤ ((ji11) : Int) := od_; have q1005 : (ji11) < (l0.length : Int) := od_; obtain ⟨ad1005, e1005, hx1005_0, hx1005_1⟩ := at_T86 HR0.out (ji11) p1005 q1005; obtain rfl : ad1001 = ad1005 := (by injection e1005); have hn1005_0 : ad1001.block ≠ gb1002 := hb_ hx1005_0 GW1002; have hn1005_1 : ad1001.block ≠ gb1002 := hb_ hx1005_0 GW1002; replace hx1005_0 := kp_ HB hx1005_0; replace hx1005_1 := kp_ HB hx1005_1; replace hx1005_0 := cf_ gb1002 0 hn1005_0 (.string ((rd_T86 l0 x10_1).f0)) hx1005_0; replace hx1005_1 := cf_ gb1002 0 hn1005_0 (.string ((rd_T86 l0 x10_1).f0)) hx1005_1; replace hx1005_0 := cf_ gb1002 1 hn1005_1 (.string ((rd_T86 l0 x10_1).f1)) hx1005_0; replace hx1005_1 := cf_ gb1002 1 hn1005_1 (.string ((rd_T86 l0 x10_1).f1)) hx1005_1; (try have hy1005_0 := fun (n_ : Nat) => (show ((((w15.drewN n_).setCell ⟨gb1002, 0, none⟩ (.string ((rd_T86 l0 x10_1).f0))).setCell ⟨gb1002, 1, none⟩ (.string ((rd_T86 l0 x10_1).f1)))).cell? _ = some _ from hx1005_0)); (try have hy1005_1 := fun (n_ : Nat) => (show ((((w15.drewN n_).setCell ⟨gb1002, 0, none⟩ (.string ((rd_T86 l0 x10_1).f0))).setCell ⟨gb1002, 1, none⟩ (.string ((rd_T86 l0 x10_1).f1)))).cell? _ = some _ from hx1005_1)); clear hn1005_0; clear hn1005_1; replace p1005 := eq_true p1005; replace q1005 := eq_true q1005)))
             go_roundg k1
             case measure => have := HK1.out; omega
             case rel => exact ⟨(wrap64 (x10_1 + 1)), rs_, H', ⟨by have := HK1.out; omega⟩, ⟨bg_⟩⟩
            ·rw [if_neg c14] at H
             have c14b0 : (Op.bytesLess (((rd_T86 l0 (ji11)).f0).toList) (((rd_T86 l0 x10_1).f0).toList)) = false := by simpa using c14
             clear c14
             obtain rfl := Option.some.inj H
             have p1001 : 0 ≤ (x10_1 : Int) := od_
             have q1001 : x10_1 < (l0.length : Int) := od_
             obtain ⟨ad1001, e1001, hx1001_0, hx1001_1⟩ := at_T86 HR0.out x10_1 p1001 q1001
             cases e1001
             replace hx1001_0 := kp_ HB hx1001_0
             replace hx1001_1 := kp_ HB hx1001_1
             replace p1001 := eq_true p1001
             replace q1001 := eq_true q1001
             go_wp2_with (first | ((with_reducible refine gate_dst (N := 4) rfl ?_); refine box_event ?hg (N := 4) ?hd (cs := #[.string (⟨#[]⟩ : ByteArray), .string (⟨#[]⟩ : ByteArray)]) (t := 86) ?hr ?_; (case hd => rfl); (case hg => rfl); (case hr => first | (go_simp; done) | (go_simp; rfl)); intro gb1002 hg w17 hbox hb; have n0_ := am_ (below_step bl_ hb); have n1_ := am_ (hbox); have n2_ := am_ (gs_ hg : w.heap.size ≤ gb1002); have n3_ := n2_; clear HB; have HB := n0_; have BK1002 := n1_; have GW1002 := n2_; have GE1002 := n3_; clear n0_ n1_ n2_ n3_; clear hb hbox hg; have hcz18_0 := bc2_0 BK1002; have hcz18_1 := bc2_1 BK1002; have hfz18_0 := bf_ BK1002 0; have hfz18_1 := bf_ BK1002 1) | (go_at_call 70; (with_reducible refine (impl_isName.calls k1 ((rd_T86 l0 x10_1).f0) true _ A6.out).mono ?_); rintro e w' ⟨rfl, ⟨nd, rfl⟩⟩; (try exact dd_)) | (go_at_call 71; (with_reducible refine (impl_isValue.calls k1 ((rd_T86 l0 x10_1).f1) true _ A8.out).mono ?_); rintro e w' ⟨rfl, ⟨nd, rfl⟩⟩; (try exact dd_); have p1005 : 0 ≤ ((ji11) : Int) := od_; have q1005 : (ji11) < (l0.length : Int) := od_; obtain ⟨ad1005, e1005, hx1005_0, hx1005_1⟩ := at_T86 HR0.out (ji11) p1005 q1005; obtain rfl : ad1001 = ad1005 := (by injection e1005); have hn1005_0 : ad1001.block ≠ gb1002 := hb_ hx1005_0 GW1002; have hn1005_1 : ad1001.block ≠ gb1002 := hb_ hx1005_0 GW1002; replace hx1005_0 := kp_ HB hx1005_0; replace hx1005_1 := kp_ HB hx1005_1; replace hx1005_0 := cf_ gb1002 0 hn1005_0 (.string ((rd_T86 l0 x10_1).f0)) hx1005_0; replace hx1005_1 := cf_ gb1002 0 hn1005_0 (.string ((rd_T86 l0 x10_1).f0)) hx1005_1; replace hx1005_0 := cf_ gb1002 1 hn1005_1 (.string ((rd_T86 l0 x10_1).f1)) hx1005_0; replace hx1005_1 := cf_ gb1002 1 hn1005_1 (.string ((rd_T86 l0 x10_1).f1)) hx1005_1; (try have hy1005_0 := fun (n_ : Nat) => (show ((((w17.drewN n_).setCell ⟨gb1002, 0, none⟩ (.string ((rd_T86 l0 x10_1).f0))).setCell ⟨gb1002, 1, none⟩ (.string ((rd_T86 l0 x10_1).f1)))).cell? _ = some _ from hx1005_0)); (try have hy1005_1 := fun (n_ : Nat) => (show ((((w17.drewN n_).setCell ⟨gb1002, 0, none⟩ (.string ((rd_T86 l0 x10_1).f0))).setCell ⟨gb1002, 1, none⟩ (.string ((rd_T86 l0 x10_1).f1)))).cell? _ = some _ from hx1005_1)); clear hn1005_0; clear hn1005_1; replace p1005 := eq_true p1005; replace q1005 := eq_true q1005))
             repeat (go_quiet (first | ((with_reducible refine gate_dst (N := 4) rfl ?_); refine box_event ?hg (N := 4) ?hd (cs := #[.string (⟨#[]⟩ : ByteArray), .string (⟨#[]⟩ : ByteArray)]) (t := 86) ?hr ?_; (case hd => rfl); (case hg => rfl); (case hr => first | (go_simp; done) | (go_simp; rfl)); intro gb1002 hg w17 hbox hb; have n0_ := am_ (below_step bl_ hb); have n1_ := am_ (hbox); have n2_ := am_ (gs_ hg : w.heap.size ≤ gb1002); have n3_ := n2_; clear HB; have HB := n0_; have BK1002 := n1_; have GW1002 := n2_; have GE1002 := n3_; clear n0_ n1_ n2_ n3_; clear hb hbox hg; have hcz18_0 := bc2_0 BK1002; have hcz18_1 := bc2_1 BK1002; have hfz18_0 := bf_ BK1002 0; have hfz18_1 := bf_ BK1002 1) | (go_at_call 70; (with_reducible refine (impl_isName.calls k1 ((rd_T86 l0 x10_1).f0) true _ A6.out).mono ?_); rintro e w' ⟨rfl, ⟨nd, rfl⟩⟩; (try exact dd_)) | (go_at_call 71; (with_reducible refine (impl_isValue.calls k1 ((rd_T86 l0 x10_1).f1) true _ A8.out).mono ?_); rintro e w' ⟨rfl, ⟨nd, rfl⟩⟩; (try exact dd_); have p1005 : 0 ≤ ((ji11) : Int) := od_; have q1005 : (ji11) < (l0.length : Int) := od_; obtain ⟨ad1005, e1005, hx1005_0, hx1005_1⟩ := at_T86 HR0.out (ji11) p1005 q1005; obtain rfl : ad1001 = ad1005 := (by injection e1005); have hn1005_0 : ad1001.block ≠ gb1002 := hb_ hx1005_0 GW1002; have hn1005_1 : ad1001.block ≠ gb1002 := hb_ hx1005_0 GW1002; replace hx1005_0 := kp_ HB hx1005_0; replace hx1005_1 := kp_ HB hx1005_1; replace hx1005_0 := cf_ gb1002 0 hn1005_0 (.string ((rd_T86 l0 x10_1).f0)) hx1005_0; replace hx1005_1 := cf_ gb1002 0 hn1005_0 (.string ((rd_T86 l0 x10_1).f0)) hx1005_1; replace hx1005_0 := cf_ gb1002 1 hn1005_1 (.string ((rd_T86 l0 x10_1).f1)) hx1005_0; replace hx1005_1 := cf_ gb1002 1 hn1005_1 (.string ((rd_T86 l0 x10_1).f1)) hx1005_1; (try have hy1005_0 := fun (n_ : Nat) => (show ((((w17.drewN n_).setCell ⟨gb1002, 0, none⟩ (.string ((rd_T86 l0 x10_1).f0))).setCell ⟨gb1002, 1, none⟩ (.string ((rd_T86 l0 x10_1).f1)))).cell? _ = some _ from hx1005_0)); (try have hy1005_1 := fun (n_ : Nat) => (show ((((w17.drewN n_).setCell ⟨gb1002, 0, none⟩ (.string ((rd_T86 l0 x10_1).f0))).setCell ⟨gb1002, 1, none⟩ (.string ((rd_T86 l0 x10_1).f1)))).cell? _ = some _ from hx1005_1)); clear hn1005_0; clear hn1005_1; replace p1005 := eq_true p1005; replace q1005 := eq_true q1005)); try go_wp2_with (first | ((with_reducible refine gate_dst (N := 4) rfl ?_); refine box_event ?hg (N := 4) ?hd (cs := #[.string (⟨#[]⟩ : ByteArray), .string (⟨#[]⟩ : ByteArray)]) (t := 86) ?hr ?_; (case hd => rfl); (case hg => rfl); (case hr => first | (go_simp; done) | (go_simp; rfl)); intro gb1002 hg w17 hbox hb; have n0_ := am_ (below_step bl_ hb); have n1_ := am_ (hbox); have n2_ := am_ (gs_ hg : w.heap.size ≤ gb1002); have n3_ := n2_; clear HB; have HB := n0_; have BK1002 := n1_; have GW1002 := n2_; have GE1002 := n3_; clear n0_ n1_ n2_ n3_; clear hb hbox hg; have hcz18_0 := bc2_0 BK1002; have hcz18_1 := bc2_1 BK1002; have hfz18_0 := bf_ BK1002 0; have hfz18_1 := bf_ BK1002 1) | (go_at_call 70; (with_reducible refine (impl_isName.calls k1 ((rd_T86 l0 x10_1).f0) true _ A6.out).mono ?_); rintro e w' ⟨rfl, ⟨nd, rfl⟩⟩; (try exact dd_)) | (go_at_call 71; (with_reducible refine (impl_isValue.calls k1 ((rd_T86 l0 x10_1).f1) true _ A8.out).mono ?_); rintro e w' ⟨rfl, ⟨nd, rfl⟩⟩; (try exact dd_); have p1005 : 0 ≤ ((ji11) : Int) := od_; have q1005 : (ji11) < (l0.length : Int) := od_; obtain ⟨ad1005, e1005, hx1005_0, hx1005_1⟩ := at_T86 HR0.out (ji11) p1005 q1005; obtain rfl : ad1001 = ad1005 := (by injection e1005); have hn1005_0 : ad1001.block ≠ gb1002 := hb_ hx1005_0 GW1002; have hn1005_1 : ad1001.block ≠ gb1002 := hb_ hx1005_0 GW1002; replace hx1005_0 := kp_ HB hx1005_0; replace hx1005_1 := kp_ HB hx1005_1; replace hx1005_0 := cf_ gb1002 0 hn1005_0 (.string ((rd_T86 l0 x10_1).f0)) hx1005_0; replace hx1005_1 := cf_ gb1002 0 hn1005_0 (.string ((rd_T86 l0 x10_1).f0)) hx1005_1; replace hx1005_0 := cf_ gb1002 1 hn1005_1 (.string ((rd_T86 l0 x10_1).f1)) hx1005_0; replace hx1005_1 := cf_ gb1002 1 hn1005_1 (.string ((rd_T86 l0 x10_1).f1)) hx1005_1; (try have hy1005_0 := fun (n_ : Nat) => (show ((((w17.drewN n_).setCell ⟨gb1002, 0, none⟩ (.string ((rd_T86 l0 x10_1).f0))).setCell ⟨gb1002, 1, none⟩ (.string ((rd_T86 l0 x10_1).f1)))).cell? _ = some _ from hx1005_0)); (try have hy1005_1 := fun (n_ : Nat) => (show ((((w17.drewN n_).setCell ⟨gb1002, 0, none⟩ (.string ((rd_T86 l0 x10_1).f0))).setCell ⟨gb1002, 1, none⟩ (.string ((rd_T86 l0 x10_1).f1)))).cell? _ = some _ from hx1005_1)); clear hn1005_0; clear hn1005_1; replace p1005 := eq_true p1005; replace q1005 := eq_true q1005)))
             go_ret
             exact ⟨by first | rfl | (simp [errW_none, errW_some] <;> rfl) | (simp only [← hji11]; first | rfl | (simp [errW_none, errW_some] <;> rfl)) | (simp [*, errW_none, errW_some] <;> rfl) | (simp [*, Go.Proofs.Ythgeohdpjedhnaa.Gt.nil_bne]; done), bg_⟩
           ·rw [if_neg c13] at H
            exact absurd H (by simp)
          ·rw [if_neg c12] at H
           exact absurd H (by simp)
         ·rw [if_neg c10] at H
          have c10b0 : decide (0 < x10_1) = false := decide_eq_false c10
          clear c10
          have H' := am_ H
          clear H
          have p1001 : 0 ≤ (x10_1 : Int) := od_
          have q1001 : x10_1 < (l0.length : Int) := od_
          obtain ⟨ad1001, e1001, hx1001_0, hx1001_1⟩ := at_T86 HR0.out x10_1 p1001 q1001
          cases e1001
          replace hx1001_0 := kp_ HB hx1001_0
          replace hx1001_1 := kp_ HB hx1001_1
          replace p1001 := eq_true p1001
          replace q1001 := eq_true q1001
          go_wp2_with (first | ((with_reducible refine gate_dst (N := 4) rfl ?_); refine box_event ?hg (N := 4) ?hd (cs := #[.string (⟨#[]⟩ : ByteArray), .string (⟨#[]⟩ : ByteArray)]) (t := 86) ?hr ?_; (case hd => rfl); (case hg => rfl); (case hr => first | (go_simp; done) | (go_simp; rfl)); intro gb1002 hg w19 hbox hb; have n0_ := am_ (below_step bl_ hb); have n1_ := am_ (hbox); have n2_ := am_ (gs_ hg : w.heap.size ≤ gb1002); have n3_ := n2_; clear HB; have HB := n0_; have BK1002 := n1_; have GW1002 := n2_; have GE1002 := n3_; clear n0_ n1_ n2_ n3_; clear hb hbox hg; have hcz20_0 := bc2_0 BK1002; have hcz20_1 := bc2_1 BK1002; have hfz20_0 := bf_ BK1002 0; have hfz20_1 := bf_ BK1002 1) | (go_at_call 70; (with_reducible refine (impl_isName.calls k1 ((rd_T86 l0 x10_1).f0) true _ A6.out).mono ?_); rintro e w' ⟨rfl, ⟨nd, rfl⟩⟩; (try exact dd_)) | (go_at_call 71; (with_reducible refine (impl_isValue.calls k1 ((rd_T86 l0 x10_1).f1) true _ A8.out).mono ?_); rintro e w' ⟨rfl, ⟨nd, rfl⟩⟩; (try exact dd_)))
          repeat (go_quiet (first | ((with_reducible refine gate_dst (N := 4) rfl ?_); refine box_event ?hg (N := 4) ?hd (cs := #[.string (⟨#[]⟩ : ByteArray), .string (⟨#[]⟩ : ByteArray)]) (t := 86) ?hr ?_; (case hd => rfl); (case hg => rfl); (case hr => first | (go_simp; done) | (go_simp; rfl)); intro gb1002 hg w19 hbox hb; have n0_ := am_ (below_step bl_ hb); have n1_ := am_ (hbox); have n2_ := am_ (gs_ hg : w.heap.size ≤ gb1002); have n3_ := n2_; clear HB; have HB := n0_; have BK1002 := n1_; have GW1002 := n2_; have GE1002 := n3_; clear n0_ n1_ n2_ n3_; clear hb hbox hg; have hcz20_0 := bc2_0 BK1002; have hcz20_1 := bc2_1 BK1002; have hfz20_0 := bf_ BK1002 0; have hfz20_1 := bf_ BK1002 1) | (go_at_call 70; (with_reducible refine (impl_isName.calls k1 ((rd_T86 l0 x10_1).f0) true _ A6.out).mono ?_); rintro e w' ⟨rfl, ⟨nd, rfl⟩⟩; (try exact dd_)) | (go_at_call 71; (with_reducible refine (impl_isValue.calls k1 ((rd_T86 l0 x10_1).f1) true _ A8.out).mono ?_); rintro e w' ⟨rfl, ⟨nd, rfl⟩⟩; (try exact dd_))); try go_wp2_with (first | ((with_reducible refine gate_dst (N := 4) rfl ?_); refine box_event ?hg (N := 4) ?hd (cs := #[.string (⟨#[]⟩ : ByteArray), .string (⟨#[]⟩ : ByteArray)]) (t := 86) ?hr ?_; (case hd => rfl); (case hg => rfl); (case hr => first | (go_simp; done) | (go_simp; rfl)); intro gb1002 hg w19 hbox hb; have n0_ := am_ (below_step bl_ hb); have n1_ := am_ (hbox); have n2_ := am_ (gs_ hg : w.heap.size ≤ gb1002); have n3_ := n2_; clear HB; have HB := n0_; have BK1002 := n1_; have GW1002 := n2_; have GE1002 := n3_; clear n0_ n1_ n2_ n3_; clear hb hbox hg; have hcz20_0 := bc2_0 BK1002; have hcz20_1 := bc2_1 BK1002; have hfz20_0 := bf_ BK1002 0; have hfz20_1 := bf_ BK1002 1) | (go_at_call 70; (with_reducible refine (impl_isName.calls k1 ((rd_T86 l0 x10_1).f0) true _ A6.out).mono ?_); rintro e w' ⟨rfl, ⟨nd, rfl⟩⟩; (try exact dd_)) | (go_at_call 71; (with_reducible refine (impl_isValue.calls k1 ((rd_T86 l0 x10_1).f1) true _ A8.out).mono ?_); rintro e w' ⟨rfl, ⟨nd, rfl⟩⟩; (try exact dd_))))
          go_roundg k1
          case measure => have := HK1.out; omega
          case rel => exact ⟨(wrap64 (x10_1 + 1)), rs_, H', ⟨by have := HK1.out; omega⟩, ⟨bg_⟩⟩
        ·replace c9 := Bool.eq_false_iff.mpr c9
         subst c9
         have H1 : (some false) = some r := by rw [if_neg (show ¬ (false = true) by decide)] at H; exact H
         clear H
         have H := H1
         clear H1
         obtain rfl := Option.some.inj H
         have p1001 : 0 ≤ (x10_1 : Int) := od_
         have q1001 : x10_1 < (l0.length : Int) := od_
         obtain ⟨ad1001, e1001, hx1001_0, hx1001_1⟩ := at_T86 HR0.out x10_1 p1001 q1001
         cases e1001
         replace hx1001_0 := kp_ HB hx1001_0
         replace hx1001_1 := kp_ HB hx1001_1
         replace p1001 := eq_true p1001
         replace q1001 := eq_true q1001
         go_wp2_with (first | ((with_reducible refine gate_dst (N := 4) rfl ?_); refine box_event ?hg (N := 4) ?hd (cs := #[.string (⟨#[]⟩ : ByteArray), .string (⟨#[]⟩ : ByteArray)]) (t := 86) ?hr ?_; (case hd => rfl); (case hg => rfl); (case hr => first | (go_simp; done) | (go_simp; rfl)); intro gb1002 hg w21 hbox hb; have n0_ := am_ (below_step bl_ hb); have n1_ := am_ (hbox); have n2_ := am_ (gs_ hg : w.heap.size ≤ gb1002); have n3_ := n2_; clear HB; have HB := n0_; have BK1002 := n1_; have GW1002 := n2_; have GE1002 := n3_; clear n0_ n1_ n2_ n3_; clear hb hbox hg; have hcz22_0 := bc2_0 BK1002; have hcz22_1 := bc2_1 BK1002; have hfz22_0 := bf_ BK1002 0; have hfz22_1 := bf_ BK1002 1) | (go_at_call 70; (with_reducible refine (impl_isName.calls k1 ((rd_T86 l0 x10_1).f0) true _ A6.out).mono ?_); rintro e w' ⟨rfl, ⟨nd, rfl⟩⟩; (try exact dd_)) | (go_at_call 71; (with_reducible refine (impl_isValue.calls k1 ((rd_T86 l0 x10_1).f1) false _ A8.out).mono ?_); rintro e w' ⟨rfl, ⟨nd, rfl⟩⟩; (try exact dd_)))
         repeat (go_quiet (first | ((with_reducible refine gate_dst (N := 4) rfl ?_); refine box_event ?hg (N := 4) ?hd (cs := #[.string (⟨#[]⟩ : ByteArray), .string (⟨#[]⟩ : ByteArray)]) (t := 86) ?hr ?_; (case hd => rfl); (case hg => rfl); (case hr => first | (go_simp; done) | (go_simp; rfl)); intro gb1002 hg w21 hbox hb; have n0_ := am_ (below_step bl_ hb); have n1_ := am_ (hbox); have n2_ := am_ (gs_ hg : w.heap.size ≤ gb1002); have n3_ := n2_; clear HB; have HB := n0_; have BK1002 := n1_; have GW1002 := n2_; have GE1002 := n3_; clear n0_ n1_ n2_ n3_; clear hb hbox hg; have hcz22_0 := bc2_0 BK1002; have hcz22_1 := bc2_1 BK1002; have hfz22_0 := bf_ BK1002 0; have hfz22_1 := bf_ BK1002 1) | (go_at_call 70; (with_reducible refine (impl_isName.calls k1 ((rd_T86 l0 x10_1).f0) true _ A6.out).mono ?_); rintro e w' ⟨rfl, ⟨nd, rfl⟩⟩; (try exact dd_)) | (go_at_call 71; (with_reducible refine (impl_isValue.calls k1 ((rd_T86 l0 x10_1).f1) false _ A8.out).mono ?_); rintro e w' ⟨rfl, ⟨nd, rfl⟩⟩; (try exact dd_))); try go_wp2_with (first | ((with_reducible refine gate_dst (N := 4) rfl ?_); refine box_event ?hg (N := 4) ?hd (cs := #[.string (⟨#[]⟩ : ByteArray), .string (⟨#[]⟩ : ByteArray)]) (t := 86) ?hr ?_; (case hd => rfl); (case hg => rfl); (case hr => first | (go_simp; done) | (go_simp; rfl)); intro gb1002 hg w21 hbox hb; have n0_ := am_ (below_step bl_ hb); have n1_ := am_ (hbox); have n2_ := am_ (gs_ hg : w.heap.size ≤ gb1002); have n3_ := n2_; clear HB; have HB := n0_; have BK1002 := n1_; have GW1002 := n2_; have GE1002 := n3_; clear n0_ n1_ n2_ n3_; clear hb hbox hg; have hcz22_0 := bc2_0 BK1002; have hcz22_1 := bc2_1 BK1002; have hfz22_0 := bf_ BK1002 0; have hfz22_1 := bf_ BK1002 1) | (go_at_call 70; (with_reducible refine (impl_isName.calls k1 ((rd_T86 l0 x10_1).f0) true _ A6.out).mono ?_); rintro e w' ⟨rfl, ⟨nd, rfl⟩⟩; (try exact dd_)) | (go_at_call 71; (with_reducible refine (impl_isValue.calls k1 ((rd_T86 l0 x10_1).f1) false _ A8.out).mono ?_); rintro e w' ⟨rfl, ⟨nd, rfl⟩⟩; (try exact dd_))))
         go_ret
         exact ⟨rf_, bg_⟩
       ·replace c7 := Bool.eq_false_iff.mpr c7
        subst c7
        have H1 : (some false) = some r := by rw [if_neg (show ¬ (false = true) by decide)] at H; exact H
        clear H
        have H := H1
        clear H1
        obtain rfl := Option.some.inj H
        have p1001 : 0 ≤ (x10_1 : Int) := od_
        have q1001 : x10_1 < (l0.length : Int) := od_
        obtain ⟨ad1001, e1001, hx1001_0, hx1001_1⟩ := at_T86 HR0.out x10_1 p1001 q1001
        cases e1001
        replace hx1001_0 := kp_ HB hx1001_0
        replace hx1001_1 := kp_ HB hx1001_1
        replace p1001 := eq_true p1001
        replace q1001 := eq_true q1001
        go_wp2_with (first | ((with_reducible refine gate_dst (N := 4) rfl ?_); refine box_event ?hg (N := 4) ?hd (cs := #[.string (⟨#[]⟩ : ByteArray), .string (⟨#[]⟩ : ByteArray)]) (t := 86) ?hr ?_; (case hd => rfl); (case hg => rfl); (case hr => first | (go_simp; done) | (go_simp; rfl)); intro gb1002 hg w23 hbox hb; have n0_ := am_ (below_step bl_ hb); have n1_ := am_ (hbox); have n2_ := am_ (gs_ hg : w.heap.size ≤ gb1002); have n3_ := n2_; clear HB; have HB := n0_; have BK1002 := n1_; have GW1002 := n2_; have GE1002 := n3_; clear n0_ n1_ n2_ n3_; clear hb hbox hg; have hcz24_0 := bc2_0 BK1002; have hcz24_1 := bc2_1 BK1002; have hfz24_0 := bf_ BK1002 0; have hfz24_1 := bf_ BK1002 1) | (go_at_call 70; (with_reducible refine (impl_isName.calls k1 ((rd_T86 l0 x10_1).f0) false _ A6.out).mono ?_); rintro e w' ⟨rfl, ⟨nd, rfl⟩⟩; (try exact dd_)))
        repeat (go_quiet (first | ((with_reducible refine gate_dst (N := 4) rfl ?_); refine box_event ?hg (N := 4) ?hd (cs := #[.string (⟨#[]⟩ : ByteArray), .string (⟨#[]⟩ : ByteArray)]) (t := 86) ?hr ?_; (case hd => rfl); (case hg => rfl); (case hr => first | (go_simp; done) | (go_simp; rfl)); intro gb1002 hg w23 hbox hb; have n0_ := am_ (below_step bl_ hb); have n1_ := am_ (hbox); have n2_ := am_ (gs_ hg : w.heap.size ≤ gb1002); have n3_ := n2_; clear HB; have HB := n0_; have BK1002 := n1_; have GW1002 := n2_; have GE1002 := n3_; clear n0_ n1_ n2_ n3_; clear hb hbox hg; have hcz24_0 := bc2_0 BK1002; have hcz24_1 := bc2_1 BK1002; have hfz24_0 := bf_ BK1002 0; have hfz24_1 := bf_ BK1002 1) | (go_at_call 70; (with_reducible refine (impl_isName.calls k1 ((rd_T86 l0 x10_1).f0) false _ A6.out).mono ?_); rintro e w' ⟨rfl, ⟨nd, rfl⟩⟩; (try exact dd_))); try go_wp2_with (first | ((with_reducible refine gate_dst (N := 4) rfl ?_); refine box_event ?hg (N := 4) ?hd (cs := #[.string (⟨#[]⟩ : ByteArray), .string (⟨#[]⟩ : ByteArray)]) (t := 86) ?hr ?_; (case hd => rfl); (case hg => rfl); (case hr => first | (go_simp; done) | (go_simp; rfl)); intro gb1002 hg w23 hbox hb; have n0_ := am_ (below_step bl_ hb); have n1_ := am_ (hbox); have n2_ := am_ (gs_ hg : w.heap.size ≤ gb1002); have n3_ := n2_; clear HB; have HB := n0_; have BK1002 := n1_; have GW1002 := n2_; have GE1002 := n3_; clear n0_ n1_ n2_ n3_; clear hb hbox hg; have hcz24_0 := bc2_0 BK1002; have hcz24_1 := bc2_1 BK1002; have hfz24_0 := bf_ BK1002 0; have hfz24_1 := bf_ BK1002 1) | (go_at_call 70; (with_reducible refine (impl_isName.calls k1 ((rd_T86 l0 x10_1).f0) false _ A6.out).mono ?_); rintro e w' ⟨rfl, ⟨nd, rfl⟩⟩; (try exact dd_))))
        go_ret
        exact ⟨rf_, bg_⟩
      ·rw [if_neg c5] at H
       exact absurd H (by simp)
     ·rw [if_neg c4] at H
      exact absurd H (by simp)
    ·rw [if_neg c3] at H
     have c3b0 : decide (x10_1 < (l0.length : Int)) = false := decide_eq_false c3
     clear c3
     obtain rfl := Option.some.inj H
     go_wp2
     repeat (go_quiet (fail); try go_wp2)
     go_ret
     exact ⟨rf_, bl_⟩

/-! ### laws_eqLabel: function 73 -/
def laws_eqLabel.f (a0_0 : ByteArray) (a0_1 : ByteArray) (a1_0 : ByteArray) (a1_1 : ByteArray) : Option (Bool) := if a0_0.toList = a1_0.toList then (if a0_1.toList = a1_1.toList then (some true) else (some false)) else (some false)
set_option maxHeartbeats 8000000 in
set_option maxRecDepth 100000 in
theorem laws_eqLabel.calls (a0_0 : ByteArray) (a0_1 : ByteArray) (a1_0 : ByteArray) (a1_1 : ByteArray) (r : Bool) (w : World) (h : laws_eqLabel.f a0_0 a0_1 a1_0 a1_1 = some r) :
  Calls Try.prog 73 #[.agg #[.string a0_0, .string a0_1], .agg #[.string a1_0, .string a1_1]] w fun e w' => e = .returned (.bool r) ∧ Below w.heap.size w w' := by
 have hu86 := Try.underlying86
 have HB := am_ (Below.refl w.heap.size w)
 have H : (if a0_0.toList = a1_0.toList then (if a0_1.toList = a1_1.toList then (some true) else (some false)) else (some false)) = some r := h
 clear h
 by_cases c3 : a0_0.toList = a1_0.toList
 ·rw [if_pos c3] at H
  have c3b0 : (a0_0.toList == a1_0.toList) = true := beq_iff_eq.mpr c3
  have c3b1 : (a0_0.toList != a1_0.toList) = false := bne_eq_false_iff_eq.mpr c3
  clear c3
  by_cases c4 : a0_1.toList = a1_1.toList
  ·rw [if_pos c4] at H
   have c4b0 : (a0_1.toList == a1_1.toList) = true := beq_iff_eq.mpr c4
   have c4b1 : (a0_1.toList != a1_1.toList) = false := bne_eq_false_iff_eq.mpr c4
   clear c4
   obtain rfl := Option.some.inj H
   go_enter Try.func73, Try.ntmps73
   go_wp2_with (first | ((with_reducible refine gate_dst (N := 2) rfl ?_); refine box_event ?hg (N := 2) ?hd (cs := #[.string a0_0, .string a0_1]) (t := 86) ?hr ?_; (case hd => rfl); (case hg => rfl); (case hr => first | (go_simp; done) | (go_simp; rfl)); intro gb1001 hg w5 hbox hb; have n0_ := am_ (below_step bl_ hb); have n1_ := am_ (hbox); have n2_ := am_ (gs_ hg : w.heap.size ≤ gb1001); have n3_ := n2_; clear HB; have HB := n0_; have BK1001 := n1_; have GW1001 := n2_; have GE1001 := n3_; clear n0_ n1_ n2_ n3_; clear hb hbox hg) | ((with_reducible refine gate_dst (N := 3) rfl ?_); refine box_event ?hg (N := 3) ?hd (cs := #[.string a1_0, .string a1_1]) (t := 86) ?hr ?_; (case hd => rfl); (case hg => rfl); (case hr => first | (go_simp; done) | (go_simp; rfl)); intro gb1002 hg w6 hbox hb; have n0_ := am_ (blk_below (g := gb1001) (vk_ BK1001) hb); have n1_ := am_ (below_step bg_ hb); have n2_ := am_ (hbox); have n3_ := am_ (gg_ hg : w.heap.size ≤ gb1002); have n4_ := n3_; have n5_ := am_ ((by rw [hg]; exact Nat.ne_of_lt (blk_lt (g := gb1001) (o := .cells #[.string a0_0, .string a0_1] 86 (0, 0)) (vk_ BK1001)) : gb1001 ≠ gb1002)); have n6_ := am_ ((by rw [hg]; exact Nat.ne_of_gt (blk_lt (g := gb1001) (o := .cells #[.string a0_0, .string a0_1] 86 (0, 0)) (vk_ BK1001)) : gb1002 ≠ gb1001)); clear BK1001; clear HB; have BK1001 := n0_; have HB := n1_; have BK1002 := n2_; have GW1002 := n3_; have GE1002 := n4_; have NB1001_1002 := n5_; have NB1002_1001 := n6_; clear n0_ n1_ n2_ n3_ n4_ n5_ n6_; clear hb hbox hg; have hnb7 := NB1001_1002.out; have hnc7 := NB1002_1001.out; have hcz8_0 := bc2_0 BK1001; have hcz8_1 := bc2_1 BK1001; have hfz8_0 := bf_ BK1001 0; have hfz8_1 := bf_ BK1001 1; have hcz9_0 := bc2_0 BK1002; have hcz9_1 := bc2_1 BK1002; have hfz9_0 := bf_ BK1002 0; have hfz9_1 := bf_ BK1002 1))
   go_ret
   exact ⟨rf_, bg_⟩
  ·rw [if_neg c4] at H
   have c4b0 : (a0_1.toList == a1_1.toList) = false := beq_eq_false_iff_ne.mpr c4
   have c4b1 : (a0_1.toList != a1_1.toList) = true := bne_iff_ne.mpr c4
   obtain rfl := Option.some.inj H
   go_enter Try.func73, Try.ntmps73
   go_wp2_with (first | ((with_reducible refine gate_dst (N := 2) rfl ?_); refine box_event ?hg (N := 2) ?hd (cs := #[.string a0_0, .string a0_1]) (t := 86) ?hr ?_; (case hd => rfl); (case hg => rfl); (case hr => first | (go_simp; done) | (go_simp; rfl)); intro gb1001 hg w10 hbox hb; have n0_ := am_ (below_step bl_ hb); have n1_ := am_ (hbox); have n2_ := am_ (gs_ hg : w.heap.size ≤ gb1001); have n3_ := n2_; clear HB; have HB := n0_; have BK1001 := n1_; have GW1001 := n2_; have GE1001 := n3_; clear n0_ n1_ n2_ n3_; clear hb hbox hg) | ((with_reducible refine gate_dst (N := 3) rfl ?_); refine box_event ?hg (N := 3) ?hd (cs := #[.string a1_0, .string a1_1]) (t := 86) ?hr ?_; (case hd => rfl); (case hg => rfl); (case hr => first | (go_simp; done) | (go_simp; rfl)); intro gb1002 hg w11 hbox hb; have n0_ := am_ (blk_below (g := gb1001) (vk_ BK1001) hb); have n1_ := am_ (below_step bg_ hb); have n2_ := am_ (hbox); have n3_ := am_ (gg_ hg : w.heap.size ≤ gb1002); have n4_ := n3_; have n5_ := am_ ((by rw [hg]; exact Nat.ne_of_lt (blk_lt (g := gb1001) (o := .cells #[.string a0_0, .string a0_1] 86 (0, 0)) (vk_ BK1001)) : gb1001 ≠ gb1002)); have n6_ := am_ ((by rw [hg]; exact Nat.ne_of_gt (blk_lt (g := gb1001) (o := .cells #[.string a0_0, .string a0_1] 86 (0, 0)) (vk_ BK1001)) : gb1002 ≠ gb1001)); clear BK1001; clear HB; have BK1001 := n0_; have HB := n1_; have BK1002 := n2_; have GW1002 := n3_; have GE1002 := n4_; have NB1001_1002 := n5_; have NB1002_1001 := n6_; clear n0_ n1_ n2_ n3_ n4_ n5_ n6_; clear hb hbox hg; have hnb12 := NB1001_1002.out; have hnc12 := NB1002_1001.out; have hcz13_0 := bc2_0 BK1001; have hcz13_1 := bc2_1 BK1001; have hfz13_0 := bf_ BK1001 0; have hfz13_1 := bf_ BK1001 1; have hcz14_0 := bc2_0 BK1002; have hcz14_1 := bc2_1 BK1002; have hfz14_0 := bf_ BK1002 0; have hfz14_1 := bf_ BK1002 1))
   go_ret
   exact ⟨rf_, bg_⟩
 ·rw [if_neg c3] at H
  have c3b0 : (a0_0.toList == a1_0.toList) = false := beq_eq_false_iff_ne.mpr c3
  have c3b1 : (a0_0.toList != a1_0.toList) = true := bne_iff_ne.mpr c3
  obtain rfl := Option.some.inj H
  go_enter Try.func73, Try.ntmps73
  go_wp2_with (first | ((with_reducible refine gate_dst (N := 2) rfl ?_); refine box_event ?hg (N := 2) ?hd (cs := #[.string a0_0, .string a0_1]) (t := 86) ?hr ?_; (case hd => rfl); (case hg => rfl); (case hr => first | (go_simp; done) | (go_simp; rfl)); intro gb1001 hg w15 hbox hb; have n0_ := am_ (below_step bl_ hb); have n1_ := am_ (hbox); have n2_ := am_ (gs_ hg : w.heap.size ≤ gb1001); have n3_ := n2_; clear HB; have HB := n0_; have BK1001 := n1_; have GW1001 := n2_; have GE1001 := n3_; clear n0_ n1_ n2_ n3_; clear hb hbox hg) | ((with_reducible refine gate_dst (N := 3) rfl ?_); refine box_event ?hg (N := 3) ?hd (cs := #[.string a1_0, .string a1_1]) (t := 86) ?hr ?_; (case hd => rfl); (case hg => rfl); (case hr => first | (go_simp; done) | (go_simp; rfl)); intro gb1002 hg w16 hbox hb; have n0_ := am_ (blk_below (g := gb1001) (vk_ BK1001) hb); have n1_ := am_ (below_step bg_ hb); have n2_ := am_ (hbox); have n3_ := am_ (gg_ hg : w.heap.size ≤ gb1002); have n4_ := n3_; have n5_ := am_ ((by rw [hg]; exact Nat.ne_of_lt (blk_lt (g := gb1001) (o := .cells #[.string a0_0, .string a0_1] 86 (0, 0)) (vk_ BK1001)) : gb1001 ≠ gb1002)); have n6_ := am_ ((by rw [hg]; exact Nat.ne_of_gt (blk_lt (g := gb1001) (o := .cells #[.string a0_0, .string a0_1] 86 (0, 0)) (vk_ BK1001)) : gb1002 ≠ gb1001)); clear BK1001; clear HB; have BK1001 := n0_; have HB := n1_; have BK1002 := n2_; have GW1002 := n3_; have GE1002 := n4_; have NB1001_1002 := n5_; have NB1002_1001 := n6_; clear n0_ n1_ n2_ n3_ n4_ n5_ n6_; clear hb hbox hg; have hnb17 := NB1001_1002.out; have hnc17 := NB1002_1001.out; have hcz18_0 := bc2_0 BK1001; have hcz18_1 := bc2_1 BK1001; have hfz18_0 := bf_ BK1001 0; have hfz18_1 := bf_ BK1001 1; have hcz19_0 := bc2_0 BK1002; have hcz19_1 := bc2_1 BK1002; have hfz19_0 := bf_ BK1002 0; have hfz19_1 := bf_ BK1002 1))
  go_ret
  exact ⟨rf_, bg_⟩

/-! ### laws_eqLabelS: function 23 -/
def laws_eqLabelS.l0 : Nat → List (S86) → List (S86) → Int → Option (Bool)
 | 0, _, _, _ => none
 | k + 1, x0, x1, x5 => if x5 < (x0.length : Int) then (if 0 ≤ x5 then (if x5 < (x1.length : Int) then ((laws_eqLabel.f ((rd_T86 x0 x5).f0) ((rd_T86 x0 x5).f1) ((rd_T86 x1 x5).f0) ((rd_T86 x1 x5).f1)).bind fun t1003 => (if t1003 = true then (laws_eqLabelS.l0 k x0 x1 (wrap64 (x5 + 1))) else (some false))) else (none)) else (none)) else (some true)
def laws_eqLabelS.f (k : Nat) (l0 : List (S86)) (l1 : List (S86)) : Option (Bool) := if (l0.length : Int) = (l1.length : Int) then (laws_eqLabelS.l0 k l0 l1 0) else (some false)
theorem laws_eqLabelS.mono_l : ∀ k, (∀ y0 y1 y2, LeO (laws_eqLabelS.l0 k y0 y1 y2) (laws_eqLabelS.l0 (k + 1) y0 y1 y2))
 | 0 => fun _ _ _ r h => by simp [laws_eqLabelS.l0] at h
 | k + 1 => by
  have ih0 := laws_eqLabelS.mono_l k
  ·intro y0 y1 y2
   unfold laws_eqLabelS.l0
   repeat' first
   | with_reducible first | exact ih0 _ _ _ | exact LeO.refl _ | exact LeO.none _ | refine LeO.ite ?_ ?_ | refine LeO.bind ?_ (fun _ => ?_)
   | exact ih0 _ _ _
   | exact LeO.none _
   | refine LeO.ite ?_ ?_
   | refine LeO.bind ?_ (fun _ => ?_)
theorem laws_eqLabelS.mono : ∀ a0 a1 k, LeO (laws_eqLabelS.f k a0 a1) (laws_eqLabelS.f (k + 1) a0 a1) := by
 intro a0 a1 k
 have ih0 := laws_eqLabelS.mono_l k
 unfold laws_eqLabelS.f
 repeat' first
   | with_reducible first | exact ih0 _ _ _ | exact LeO.refl _ | exact LeO.none _ | refine LeO.ite ?_ ?_ | refine LeO.bind ?_ (fun _ => ?_)
   | exact ih0 _ _ _
   | exact LeO.none _
   | refine LeO.ite ?_ ?_
   | refine LeO.bind ?_ (fun _ => ?_)
def laws_eqLabelS.T6 : Bool × List (List Nat × List Nat) := (true, [([], []), ([], []), ([0, 1], [0, 1]), ([2], [2]), ([], []), ([], []), ([4, 5], [4, 5]), ([6], [6]), ([3, 7], [3, 7]), ([8], [8])])
def laws_eqLabelS.B6 : List Nat := [0, 0, 3, 7, 0, 0, 48, 112, 255, 511]
theorem laws_eqLabelS.tab6 : rtab .any (opsOf Try.f23 6) = laws_eqLabelS.T6 := by kernel_rfl
theorem laws_eqLabelS.bits6 : waitsOk laws_eqLabelS.T6.2 laws_eqLabelS.B6 = true := by kernel_rfl
set_option maxHeartbeats 8000000 in
set_option maxRecDepth 100000 in
theorem laws_eqLabelS.calls (k : Nat) (A0 : Option Addr) (c0 : Nat) (l0 : List (S86)) (A1 : Option Addr) (c1 : Nat) (l1 : List (S86)) (r : Bool) (w : World) (hr0 : Kd.C k86 w A0 l0.length l0) (hc0 : l0.length ≤ c0) (hr1 : Kd.C k86 w A1 l1.length l1) (hc1 : l1.length ≤ c1) (h : laws_eqLabelS.f k l0 l1 = some r) :
  Calls Try.prog 23 #[.slice A0 l0.length c0, .slice A1 l1.length c1] w fun e w' => e = .returned (.bool r) ∧ Below w.heap.size w w' := by
 have hu86 := Try.underlying86
 have HR0 := am_ hr0
 have HC0 := am_ hc0
 clear hr0 hc0
 have HR1 := am_ hr1
 have HC1 := am_ hc1
 clear hr1 hc1
 have HB := am_ (Below.refl w.heap.size w)
 have H : (if (l0.length : Int) = (l1.length : Int) then (laws_eqLabelS.l0 k l0 l1 0) else (some false)) = some r := h
 clear h
 by_cases c3 : (l0.length : Int) = (l1.length : Int)
 ·rw [if_pos c3] at H
  have c3b0 : ((l0.length : Int) == (l1.length : Int)) = true := beq_iff_eq.mpr c3
  have c3b1 : ((l0.length : Int) != (l1.length : Int)) = false := bne_eq_false_iff_eq.mpr c3
  have c3b2 : (l0.length == l1.length) = true := by first | simpa using c3 | (simp at c3 ⊢; omega)
  clear c3
  have H' := am_ H
  clear H
  go_enter Try.func23, Try.ntmps23
  go_wp2
  go_loopg [5] k (fun kq v5 w' => ∃ (x5_1 : Int), v5 = .int .i64 x5_1 ∧ Aside0 (laws_eqLabelS.l0 kq l0 l1 x5_1 = some r) ∧ Aside0 (kq ≤ k) ∧ Aside0 (Below w.heap.size w w'))
  case atStart => exact ⟨(0), rs_, H', ⟨Nat.le_refl _⟩, ⟨bl_⟩⟩
  case round =>
   clear H'
   try clear c1
   try clear c2
   try clear p2
   try clear c3
   try clear c3b0
   try clear c3b1
   try clear c3b2
   obtain ⟨x5_1, rfl, HA, HK1, HB⟩ := hrel
   cases gk with
   | zero => exact absurd HA.out (by simp [laws_eqLabelS.l0])
   | succ k1 =>
    have H := HA.out
    clear HA
    simp only [laws_eqLabelS.l0] at H
    by_cases c4 : x5_1 < (l0.length : Int)
    ·rw [if_pos c4] at H
     have c4b0 : decide (x5_1 < (l0.length : Int)) = true := decide_eq_true c4
     clear c4
     by_cases c5 : 0 ≤ x5_1
     ·rw [if_pos c5] at H
      have c5b0 : decide (0 ≤ x5_1) = true := decide_eq_true c5
      clear c5
      by_cases c6 : x5_1 < (l1.length : Int)
      ·rw [if_pos c6] at H
       have c6b0 : decide (x5_1 < (l1.length : Int)) = true := decide_eq_true c6
       clear c6
       replace H := Option.bind_eq_some_iff.mp H
       obtain ⟨t1003, A70, H⟩ := H
       replace H : (if t1003 = true then (laws_eqLabelS.l0 k1 l0 l1 (wrap64 (x5_1 + 1))) else (some false)) = some r := H
       have A7 := am_ A70
       clear A70
       by_cases c8 : t1003 = true
       ·subst c8
        have H1 : (laws_eqLabelS.l0 k1 l0 l1 (wrap64 (x5_1 + 1))) = some r := by rw [if_pos rfl] at H; exact H
        clear H
        have H := H1
        clear H1
        have H' := am_ H
        clear H
        try go_wp2
        have n0_ := am_ (below_drew1 HB.out)
        clear HB
        have HB := n0_
        clear n0_
        have p1001 : 0 ≤ (x5_1 : Int) := od_
        have q1001 : x5_1 < (l0.length : Int) := od_
        obtain ⟨ad1001, e1001, hx1001_0, hx1001_1⟩ := at_T86 HR0.out x5_1 p1001 q1001
        have hw1001_1 := hx1001_1
        have hw1001_0 := hx1001_0
        cases e1001
        replace hx1001_0 := kp_ HB hx1001_0
        replace hx1001_1 := kp_ HB hx1001_1
        replace p1001 := eq_true p1001
        replace q1001 := eq_true q1001
        have p1002 : 0 ≤ (x5_1 : Int) := od_
        have q1002 : x5_1 < (l1.length : Int) := od_
        obtain ⟨ad1002, e1002, hx1002_0, hx1002_1⟩ := at_T86 HR1.out x5_1 p1002 q1002
        have hw1002_1 := hx1002_1
        have hw1002_0 := hx1002_0
        cases e1002
        replace hx1002_0 := kp_ HB hx1002_0
        replace hx1002_1 := kp_ HB hx1002_1
        replace p1002 := eq_true p1002
        replace q1002 := eq_true q1002
        refine start_ (n := 10) (S := fun w' => w'.cell? (ad1001.add ((x5_1).toNat * 2)) = some (.string ((rd_T86 l0 x5_1).f0)) ∧ w'.cell? ⟨(ad1001.add ((x5_1).toNat * 2)).block, (ad1001.add ((x5_1).toNat * 2)).off + 1, none⟩ = some (.string ((rd_T86 l0 x5_1).f1)) ∧ w'.cell? (ad1002.add ((x5_1).toNat * 2)) = some (.string ((rd_T86 l1 x5_1).f0)) ∧ w'.cell? ⟨(ad1002.add ((x5_1).toNat * 2)).block, (ad1002.add ((x5_1).toNat * 2)).off + 1, none⟩ = some (.string ((rd_T86 l1 x5_1).f1))) (ds := []) (bz 10 0) (by kernel_rfl) rfl rfl ⟨(kp_ HB hw1001_0 :), (kp_ HB hw1001_1 :), (kp_ HB hw1002_0 :), (kp_ HB hw1002_1 :)⟩ (fun hHeld => ?_); refine with_tabW laws_eqLabelS.tab6 laws_eqLabelS.bits6 (fun HT_ HW_ => ?_)
        generalize wr.drew = w9 at HB hx1001_0 hx1001_1 hx1002_0 hx1002_1 hHeld ⊢
        refine pz_ 0 17 1 ?_
        refine pz_ 1 18 3 ?_
        refine pz_ 2 19 7 ?_
        refine pz_ 4 21 23 ?_
        refine pz_ 5 22 55 ?_
        refine pz_ 6 23 119 ?_
        refine tz_ 3 20 127 ?_
        refine tz_ 7 24 255 ?_
        refine one_ (i := 8) (N := some 25) (bz 10 511) rfl rfl (one_of HT_.out (by kernel_rfl)) (by decide) (fun K hK => ?_)
        refine goes_ Try.func73 (by kernel_rfl) rfl #[.agg #[.string ((rd_T86 l0 x5_1).f0), .string ((rd_T86 l0 x5_1).f1)], .agg #[.string ((rd_T86 l1 x5_1).f0), .string ((rd_T86 l1 x5_1).f1)]] (by rfl) rfl rfl ag_ ?_
        with_reducible refine (laws_eqLabel.calls ((rd_T86 l0 x5_1).f0) ((rd_T86 l0 x5_1).f1) ((rd_T86 l1 x5_1).f0) ((rd_T86 l1 x5_1).f1) true _ A7.out).mono ?_
        rintro e w10 ⟨rfl, hb⟩
        refine ⟨_, rfl, ?_⟩
        have n0_ := am_ (below_step bl_ hb)
        clear HB
        have HB := n0_
        clear n0_
        (try clear hb)
        (try clear hb2)
        (try clear hk)
        (try clear hi)
        refine hK.out _ _ ⟨(kp_ HB hw1001_0 :), (kp_ HB hw1001_1 :), (kp_ HB hw1002_0 :), (kp_ HB hw1002_1 :)⟩ (fun hHeld => ?_)
        clear hK K
        refine norm_ (a' := ?_) ?_ ?_
        rotate_left
        ·show Act.put _ (some 25) _ = _
         simp only [Act.put, List.setIfInBounds_toArray, List.set_cons_zero, List.set_cons_succ, i64_w, i32_w]
         rfl
        refine pz_ 9 26 1023 ?_
        refine done_ (done_of HT_.out (by kernel_rfl)) ?_
        try go_wp2
        go_roundg k1
        case measure => have := HK1.out; omega
        case rel => exact ⟨(wrap64 (x5_1 + 1)), rs_, H', ⟨by have := HK1.out; omega⟩, ⟨bl_⟩⟩
       ·replace c8 := Bool.eq_false_iff.mpr c8
        subst c8
        have H1 : (some false) = some r := by rw [if_neg (show ¬ (false = true) by decide)] at H; exact H
        clear H
        have H := H1
        clear H1
        obtain rfl := Option.some.inj H
        try go_wp2
        have n0_ := am_ (below_drew1 HB.out)
        clear HB
        have HB := n0_
        clear n0_
        have p1001 : 0 ≤ (x5_1 : Int) := od_
        have q1001 : x5_1 < (l0.length : Int) := od_
        obtain ⟨ad1001, e1001, hx1001_0, hx1001_1⟩ := at_T86 HR0.out x5_1 p1001 q1001
        have hw1001_1 := hx1001_1
        have hw1001_0 := hx1001_0
        cases e1001
        replace hx1001_0 := kp_ HB hx1001_0
        replace hx1001_1 := kp_ HB hx1001_1
        replace p1001 := eq_true p1001
        replace q1001 := eq_true q1001
        have p1002 : 0 ≤ (x5_1 : Int) := od_
        have q1002 : x5_1 < (l1.length : Int) := od_
        obtain ⟨ad1002, e1002, hx1002_0, hx1002_1⟩ := at_T86 HR1.out x5_1 p1002 q1002
        have hw1002_1 := hx1002_1
        have hw1002_0 := hx1002_0
        cases e1002
        replace hx1002_0 := kp_ HB hx1002_0
        replace hx1002_1 := kp_ HB hx1002_1
        replace p1002 := eq_true p1002
        replace q1002 := eq_true q1002
        refine start_ (n := 10) (S := fun w' => w'.cell? (ad1001.add ((x5_1).toNat * 2)) = some (.string ((rd_T86 l0 x5_1).f0)) ∧ w'.cell? ⟨(ad1001.add ((x5_1).toNat * 2)).block, (ad1001.add ((x5_1).toNat * 2)).off + 1, none⟩ = some (.string ((rd_T86 l0 x5_1).f1)) ∧ w'.cell? (ad1002.add ((x5_1).toNat * 2)) = some (.string ((rd_T86 l1 x5_1).f0)) ∧ w'.cell? ⟨(ad1002.add ((x5_1).toNat * 2)).block, (ad1002.add ((x5_1).toNat * 2)).off + 1, none⟩ = some (.string ((rd_T86 l1 x5_1).f1))) (ds := []) (bz 10 0) (by kernel_rfl) rfl rfl ⟨(kp_ HB hw1001_0 :), (kp_ HB hw1001_1 :), (kp_ HB hw1002_0 :), (kp_ HB hw1002_1 :)⟩ (fun hHeld => ?_); refine with_tabW laws_eqLabelS.tab6 laws_eqLabelS.bits6 (fun HT_ HW_ => ?_)
        generalize wr.drew = w11 at HB hx1001_0 hx1001_1 hx1002_0 hx1002_1 hHeld ⊢
        refine pz_ 0 17 1 ?_
        refine pz_ 1 18 3 ?_
        refine pz_ 2 19 7 ?_
        refine pz_ 4 21 23 ?_
        refine pz_ 5 22 55 ?_
        refine pz_ 6 23 119 ?_
        refine tz_ 3 20 127 ?_
        refine tz_ 7 24 255 ?_
        refine one_ (i := 8) (N := some 25) (bz 10 511) rfl rfl (one_of HT_.out (by kernel_rfl)) (by decide) (fun K hK => ?_)
        refine goes_ Try.func73 (by kernel_rfl) rfl #[.agg #[.string ((rd_T86 l0 x5_1).f0), .string ((rd_T86 l0 x5_1).f1)], .agg #[.string ((rd_T86 l1 x5_1).f0), .string ((rd_T86 l1 x5_1).f1)]] (by rfl) rfl rfl ag_ ?_
        with_reducible refine (laws_eqLabel.calls ((rd_T86 l0 x5_1).f0) ((rd_T86 l0 x5_1).f1) ((rd_T86 l1 x5_1).f0) ((rd_T86 l1 x5_1).f1) false _ A7.out).mono ?_
        rintro e w12 ⟨rfl, hb⟩
        refine ⟨_, rfl, ?_⟩
        have n0_ := am_ (below_step bl_ hb)
        clear HB
        have HB := n0_
        clear n0_
        (try clear hb)
        (try clear hb2)
        (try clear hk)
        (try clear hi)
        refine hK.out _ _ ⟨(kp_ HB hw1001_0 :), (kp_ HB hw1001_1 :), (kp_ HB hw1002_0 :), (kp_ HB hw1002_1 :)⟩ (fun hHeld => ?_)
        clear hK K
        refine norm_ (a' := ?_) ?_ ?_
        rotate_left
        ·show Act.put _ (some 25) _ = _
         simp only [Act.put, List.setIfInBounds_toArray, List.set_cons_zero, List.set_cons_succ, i64_w, i32_w]
         rfl
        refine pz_ 9 26 1023 ?_
        refine done_ (done_of HT_.out (by kernel_rfl)) ?_
        try go_wp2
        go_ret
        exact ⟨rf_, bl_⟩
      ·rw [if_neg c6] at H
       exact absurd H (by simp)
     ·rw [if_neg c5] at H
      exact absurd H (by simp)
    ·rw [if_neg c4] at H
     have c4b0 : decide (x5_1 < (l0.length : Int)) = false := decide_eq_false c4
     clear c4
     obtain rfl := Option.some.inj H
     go_wp2
     go_ret
     exact ⟨rf_, bl_⟩
 ·rw [if_neg c3] at H
  have c3b0 : ((l0.length : Int) == (l1.length : Int)) = false := beq_eq_false_iff_ne.mpr c3
  have c3b1 : ((l0.length : Int) != (l1.length : Int)) = true := bne_iff_ne.mpr c3
  have c3b2 : (l0.length == l1.length) = false := by first | simpa using c3 | (simp at c3 ⊢; omega)
  obtain rfl := Option.some.inj H
  go_enter Try.func23, Try.ntmps23
  go_wp2
  go_ret
  exact ⟨rf_, bl_⟩

end Go.Proofs.Ythgeohdpjedhnaa.Pr
