/- Functions of the given program as plain Lean functions, and that the machine's calls come to them; written by a program of this session; no condition but those that each theorem states. -/
import Derived.Test.YtbejcmfpmoaddaaPrx0
namespace Go.Proofs.Ytbejcmfpmoaddaa.Pr
open Go.RowKit Go.Proofs.YtbejcmfpmoaddaaW.PrintWords Go.Proofs.YtbejcmfpmoaddaaW.PrintLast Go.Proofs.YtbejcmfpmoaddaaW.PrintMore
attribute [local go_sem] max2_int min2_int max_two min_two max_three min_three max_four min_four   -- for this text's walks alone
set_option linter.unusedVariables false
set_option linter.unusedSimpArgs false

/-! ### laws_szStringS: function 5 -/
def laws_szStringS.l0 : Nat → List ByteArray → Int → Int → Option (Int)
 | 0, _, _, _ => none
 | k + 1, x0, x1, x5 => if x5 < (x0.length : Int) then (if 0 ≤ x5 then (if (wrap64 (x1 - ((rdOf ByteArray.empty x0 x5).size : Int))) < 0 then (some (-1)) else (laws_szStringS.l0 k x0 (wrap64 (x1 - ((rdOf ByteArray.empty x0 x5).size : Int))) (wrap64 (x5 + 1)))) else (none)) else (some x1)
def laws_szStringS.f (k : Nat) (l0 : List ByteArray) (a1 : Int) : Option (Int) := if (wrap64 (a1 - (l0.length : Int))) < 0 then (some (-1)) else (laws_szStringS.l0 k l0 (wrap64 (a1 - (l0.length : Int))) 0)
theorem laws_szStringS.mono_l : ∀ k, (∀ y0 y1 y2, LeO (laws_szStringS.l0 k y0 y1 y2) (laws_szStringS.l0 (k + 1) y0 y1 y2))
 | 0 => fun _ _ _ r h => by simp [laws_szStringS.l0] at h
 | k + 1 => by
  have ih0 := laws_szStringS.mono_l k
  ·intro y0 y1 y2
   unfold laws_szStringS.l0
   repeat' with_reducible first | apply ih0 | apply LeO.refl | apply LeO.none | apply LeO.ite | refine LeO.bind ?_ (fun _ => ?_)
theorem laws_szStringS.mono : ∀ a0 a1 k, LeO (laws_szStringS.f k a0 a1) (laws_szStringS.f (k + 1) a0 a1) := by
 intro a0 a1 k
 have ih0 := laws_szStringS.mono_l k
 unfold laws_szStringS.f
 repeat' with_reducible first | apply ih0 | apply LeO.refl | apply LeO.none | apply LeO.ite | refine LeO.bind ?_ (fun _ => ?_)
set_option maxHeartbeats 8000000 in
set_option maxRecDepth 100000 in
theorem laws_szStringS.calls (k : Nat) (A0 : Option Addr) (c0 : Nat) (l0 : List ByteArray) (a1 : Int) (r : Int) (w : World) (hr0 : Kd.C Kd.string w A0 l0.length l0) (hc0 : l0.length ≤ c0) (h : laws_szStringS.f k l0 a1 = some r) :
  Calls Try.prog 5 #[.slice A0 l0.length c0, .int .i64 a1] w fun e w' => e = .returned (.int .i64 r) ∧ Drawn0 w w' := by
 have HR0 := am_ hr0; have HC0 := am_ hc0; clear hr0 hc0; have H := h; clear h; unfold laws_szStringS.f at H
 by_cases c3 : (wrap64 (a1 - (l0.length : Int))) < 0
 ·rw [if_pos c3] at H; have c3b0 := decide_eq_true c3; clear c3; obtain rfl := si_ H; go_enter Try.func5, Try.ntmps5; go_wp2; go_ret; exact ⟨by first | rfl | (simp; done) | (simp [*]; done), by repeat (first | exact Drawn0.refl _ | apply Drawn0.step)⟩
 ·rw [if_neg c3] at H; have c3b0 := decide_eq_false c3; clear c3; have H' := am_ H; clear H; go_enter Try.func5, Try.ntmps5; go_wp2
  go_loopg [1, 5] k (fun kq v1 v5 w' => ∃ (x1_1 : Int) (x5_1 : Int), v1 = .int .i64 x1_1 ∧ v5 = .int .i64 x5_1 ∧ Aside0 (laws_szStringS.l0 kq l0 x1_1 x5_1 = some r) ∧ Aside0 (kq ≤ k) ∧ Drawn0 w w')
  case atStart => exact ⟨(wrap64 (a1 - (l0.length : Int))), (0), rs_, rs_, H', ⟨Nat.le_refl _⟩, by repeat (first | exact Drawn0.refl _ | apply Drawn0.step)⟩
  case round =>
   clear H'; (try clear c3); (try clear c3b0); obtain ⟨x1_1, x5_1, rfl, rfl, HA, HK1, ⟨m1, rfl⟩⟩ := hrel
   cases gk with
   | zero => exact absurd HA.out (by simp [laws_szStringS.l0])
   | succ k1 =>
    have H := HA.out; clear HA; simp only [laws_szStringS.l0] at H
    by_cases c4 : x5_1 < (l0.length : Int)
    ·rw [if_pos c4] at H; have c4b0 := decide_eq_true c4; clear c4; replace H := is_ H; obtain ⟨c5, H⟩ := H; have c5b0 := decide_eq_true c5; clear c5
     by_cases c6 : (wrap64 (x1_1 - ((rdOf ByteArray.empty l0 x5_1).size : Int))) < 0
     ·rw [if_pos c6] at H; have c6b0 := decide_eq_true c6; clear c6; obtain rfl := si_ H; have p1001 : 0 ≤ (x5_1 : Int) := od_; have q1001 : x5_1 < (l0.length : Int) := od_; obtain ⟨ad1001, e1001, hx1001_0⟩ := Kd.at_string HR0.out x5_1 p1001 q1001
      cases e1001
      replace p1001 := eq_true p1001; replace q1001 := eq_true q1001; go_wp2; go_ret; exact ⟨by first | rfl | (simp; done) | (simp [*]; done), by repeat (first | exact Drawn0.refl _ | apply Drawn0.step)⟩
     ·rw [if_neg c6] at H; have c6b0 := decide_eq_false c6; clear c6; have H' := am_ H; clear H; have p1001 : 0 ≤ (x5_1 : Int) := od_; have q1001 : x5_1 < (l0.length : Int) := od_; obtain ⟨ad1001, e1001, hx1001_0⟩ := Kd.at_string HR0.out x5_1 p1001 q1001
      cases e1001
      replace p1001 := eq_true p1001; replace q1001 := eq_true q1001; go_wp2; go_roundg k1
      case measure => have := HK1.out; omega
      case rel => exact ⟨(wrap64 (x1_1 - ((rdOf ByteArray.empty l0 x5_1).size : Int))), (wrap64 (x5_1 + 1)), rs_, rs_, H', ⟨by have := HK1.out; omega⟩, by repeat (first | exact Drawn0.refl _ | apply Drawn0.step)⟩
    ·rw [if_neg c4] at H; have c4b0 := decide_eq_false c4; clear c4; obtain rfl := si_ H; go_wp2; go_ret; exact ⟨by first | rfl | (simp; done) | (simp [*]; done), by repeat (first | exact Drawn0.refl _ | apply Drawn0.step)⟩

/-! ### spec_l2Printed: function 39 -/
def spec_l2Printed.l0 : Nat → ByteArray → Int → Option (Bool)
 | 0, _, _ => none
 | k + 1, x0, x3 => if x3 < (x0.size : Int) then (if 0 ≤ x3 then (if (bt x0 x3) < 32 then (some false) else (if (bt x0 x3) > 126 then (some false) else (spec_l2Printed.l0 k x0 (wrap64 (x3 + 1))))) else (none)) else (some true)
def spec_l2Printed.f (k : Nat) (a0 : ByteArray) : Option (Bool) := spec_l2Printed.l0 k a0 0
theorem spec_l2Printed.mono_l : ∀ k, (∀ y0 y1, LeO (spec_l2Printed.l0 k y0 y1) (spec_l2Printed.l0 (k + 1) y0 y1))
 | 0 => fun _ _ r h => by simp [spec_l2Printed.l0] at h
 | k + 1 => by
  have ih0 := spec_l2Printed.mono_l k
  ·intro y0 y1
   unfold spec_l2Printed.l0
   repeat' with_reducible first | apply ih0 | apply LeO.refl | apply LeO.none | apply LeO.ite | refine LeO.bind ?_ (fun _ => ?_)
theorem spec_l2Printed.mono : ∀ a0 k, LeO (spec_l2Printed.f k a0) (spec_l2Printed.f (k + 1) a0) := by
 intro a0 k
 have ih0 := spec_l2Printed.mono_l k
 unfold spec_l2Printed.f
 repeat' with_reducible first | apply ih0 | apply LeO.refl | apply LeO.none | apply LeO.ite | refine LeO.bind ?_ (fun _ => ?_)
set_option maxHeartbeats 8000000 in
set_option maxRecDepth 100000 in
theorem spec_l2Printed.calls (k : Nat) (a0 : ByteArray) (r : Bool) (w : World) (h : spec_l2Printed.f k a0 = some r) :
  Calls Try.prog 39 #[.string a0] w fun e w' => e = .returned (.bool r) ∧ Drawn0 w w' := by
 have H := h; clear h; unfold spec_l2Printed.f at H; have H' := am_ H; clear H; go_enter Try.func39, Try.ntmps39; go_wp2
 go_loopg [3] k (fun kq v3 w' => ∃ (x3_1 : Int), v3 = .int .i64 x3_1 ∧ Aside0 (spec_l2Printed.l0 kq a0 x3_1 = some r) ∧ Aside0 (kq ≤ k) ∧ Drawn0 w w')
 case atStart => exact ⟨(0), rs_, H', ⟨Nat.le_refl _⟩, by repeat (first | exact Drawn0.refl _ | apply Drawn0.step)⟩
 case round =>
  clear H'; obtain ⟨x3_1, rfl, HA, HK1, ⟨m1, rfl⟩⟩ := hrel
  cases gk with
  | zero => exact absurd HA.out (by simp [spec_l2Printed.l0])
  | succ k1 =>
   have H := HA.out; clear HA; simp only [spec_l2Printed.l0] at H
   by_cases c2 : x3_1 < (a0.size : Int)
   ·rw [if_pos c2] at H; have c2b0 := decide_eq_true c2; clear c2; replace H := is_ H; obtain ⟨c3, H⟩ := H; have c3b0 := decide_eq_true c3; clear c3
    by_cases c5 : (bt a0 x3_1) < 32
    ·rw [if_pos c5] at H; have c5b0 := decide_eq_true c5; clear c5; obtain rfl := si_ H; have p4 : 0 ≤ (x3_1 : Int) := od_; have q4 : x3_1 < (a0.size : Int) := od_; have hx4 := bt_at a0 x3_1; replace p4 := eq_true p4; replace q4 := eq_true q4; go_wp2; go_ret; exact ⟨by first | rfl | (simp; done) | (simp [*]; done), by repeat (first | exact Drawn0.refl _ | apply Drawn0.step)⟩
    ·rw [if_neg c5] at H; have c5b0 := decide_eq_false c5; clear c5
     by_cases c7 : (bt a0 x3_1) > 126
     ·rw [if_pos c7] at H; have c7b0 := dg_ c7; clear c7; obtain rfl := si_ H; have p4 : 0 ≤ (x3_1 : Int) := od_; have q4 : x3_1 < (a0.size : Int) := od_; have hx4 := bt_at a0 x3_1; replace p4 := eq_true p4; replace q4 := eq_true q4; have p6 : 0 ≤ (x3_1 : Int) := od_; have q6 : x3_1 < (a0.size : Int) := od_; have hx6 := bt_at a0 x3_1; replace p6 := eq_true p6; replace q6 := eq_true q6; go_wp2; go_ret; exact ⟨by first | rfl | (simp; done) | (simp [*]; done), by repeat (first | exact Drawn0.refl _ | apply Drawn0.step)⟩
     ·rw [if_neg c7] at H; have c7b0 := df_ c7; clear c7; have H' := am_ H; clear H; have p4 : 0 ≤ (x3_1 : Int) := od_; have q4 : x3_1 < (a0.size : Int) := od_; have hx4 := bt_at a0 x3_1; replace p4 := eq_true p4; replace q4 := eq_true q4; have p6 : 0 ≤ (x3_1 : Int) := od_; have q6 : x3_1 < (a0.size : Int) := od_; have hx6 := bt_at a0 x3_1; replace p6 := eq_true p6; replace q6 := eq_true q6; go_wp2; go_roundg k1
      case measure => have := HK1.out; omega
      case rel => exact ⟨(wrap64 (x3_1 + 1)), rs_, H', ⟨by have := HK1.out; omega⟩, by repeat (first | exact Drawn0.refl _ | apply Drawn0.step)⟩
   ·rw [if_neg c2] at H; have c2b0 := decide_eq_false c2; clear c2; obtain rfl := si_ H; go_wp2; go_ret; exact ⟨by first | rfl | (simp; done) | (simp [*]; done), by repeat (first | exact Drawn0.refl _ | apply Drawn0.step)⟩

/-! ### spec_l4Filling: function 19 -/
mutual
def spec_l4Filling.j0 : Nat → ByteArray → Bool → Option (Bool)
 | 0, _, _ => none
 | k + 1, x0, x11 => if x11 = true then (some false) else (spec_l4Filling.l0 k x0 0)
def spec_l4Filling.l0 : Nat → ByteArray → Int → Option (Bool)
 | 0, _, _ => none
 | k + 1, x0, x3 => if x3 < (x0.size : Int) then (if 0 ≤ x3 then (if (bt x0 x3) = 36 then (if (wrap64 (x3 + 1)) = (x0.size : Int) then (some false) else (if 0 ≤ (wrap64 (x3 + 1)) then (if (wrap64 (x3 + 1)) < (x0.size : Int) then (if (bt x0 (wrap64 (x3 + 1))) = 36 then (spec_l4Filling.l0 k x0 (wrap64 ((wrap64 (x3 + 1)) + 1))) else (if (bt x0 (wrap64 (x3 + 1))) < 49 then (some false) else (if (bt x0 (wrap64 (x3 + 1))) > 57 then (some false) else (spec_l4Filling.l0 k x0 (wrap64 ((wrap64 (x3 + 1)) + 1)))))) else (none)) else (none))) else (spec_l4Filling.l0 k x0 (wrap64 (x3 + 1)))) else (none)) else (some true)
end
def spec_l4Filling.f (k : Nat) (a0 : ByteArray) : Option (Bool) := if (a0.size : Int) > 100 then (spec_l4Filling.j0 k a0 true) else ((spec_l2Printed.f k a0).bind fun t1001 => (spec_l4Filling.j0 k a0 (!t1001)))
theorem spec_l4Filling.mono_l : ∀ k, (∀ y0 y1, LeO (spec_l4Filling.j0 k y0 y1) (spec_l4Filling.j0 (k + 1) y0 y1)) ∧ (∀ y0 y1, LeO (spec_l4Filling.l0 k y0 y1) (spec_l4Filling.l0 (k + 1) y0 y1))
 | 0 => ⟨fun _ _ r h => by simp [spec_l4Filling.j0] at h, fun _ _ r h => by simp [spec_l4Filling.l0] at h⟩
 | k + 1 => by
  obtain ⟨ih0, ih1⟩ := spec_l4Filling.mono_l k
  refine ⟨?_, ?_⟩
  ·intro y0 y1
   unfold spec_l4Filling.j0
   repeat' with_reducible first | apply ih0 | apply ih1 | apply spec_l2Printed.mono | apply LeO.refl | apply LeO.none | apply LeO.ite | refine LeO.bind ?_ (fun _ => ?_)
  ·intro y0 y1
   unfold spec_l4Filling.l0
   repeat' with_reducible first | apply ih0 | apply ih1 | apply spec_l2Printed.mono | apply LeO.refl | apply LeO.none | apply LeO.ite | refine LeO.bind ?_ (fun _ => ?_)
theorem spec_l4Filling.mono : ∀ a0 k, LeO (spec_l4Filling.f k a0) (spec_l4Filling.f (k + 1) a0) := by
 intro a0 k
 obtain ⟨ih0, ih1⟩ := spec_l4Filling.mono_l k
 unfold spec_l4Filling.f
 repeat' with_reducible first | apply ih0 | apply ih1 | apply spec_l2Printed.mono | apply LeO.refl | apply LeO.none | apply LeO.ite | refine LeO.bind ?_ (fun _ => ?_)
set_option maxHeartbeats 8000000 in
set_option maxRecDepth 100000 in
theorem spec_l4Filling.calls (k : Nat) (a0 : ByteArray) (r : Bool) (w : World) (h : spec_l4Filling.f k a0 = some r) :
  Calls Try.prog 19 #[.string a0] w fun e w' => e = .returned (.bool r) ∧ Drawn0 w w' := by
 have H := h; clear h; unfold spec_l4Filling.f at H; have HC2 := am_ H; clear H; go_enter Try.func19, Try.ntmps19; go_upto_region 1 with (fail)
 go_cut [11] (fun v11 wc => ∃ (kq : Nat) (x11_1 : Bool), v11 = .bool x11_1 ∧ Aside0 (spec_l4Filling.j0 kq a0 x11_1 = some r) ∧ Aside0 (kq ≤ k) ∧ Drawn0 w wc)
 case first =>
  have H := HC2.out; clear HC2
  by_cases c3 : (a0.size : Int) > 100
  ·rw [if_pos c3] at H; have c3b0 := dg_ c3; have c3b1 : decide (100 < a0.size) = true := decide_eq_true (by omega); clear c3; (first | rw [c3b0] | (simp only [i64_w, i32_w]; rw [c3b0]) | skip); have H' := am_ H; clear H; go_wp2; go_meet
   case rel => exact ⟨_, (true), rs_, H', ⟨by first | omega | exact Nat.le_refl _⟩, by repeat (first | exact Drawn0.refl _ | apply Drawn0.step)⟩
  ·rw [if_neg c3] at H; have c3b0 := df_ c3; have c3b1 : decide (100 < a0.size) = false := decide_eq_false (by omega); clear c3; (first | rw [c3b0] | (simp only [i64_w, i32_w]; rw [c3b0]) | skip); replace H := bs_ H; obtain ⟨t1001, A4, H⟩ := H; have H' := am_ H; clear H; go_wp2_with (first | (go_at_call 39; (with_reducible refine (spec_l2Printed.calls k a0 t1001 _ A4.out).mono ?_); rintro e w' ⟨rfl, ⟨nd, rfl⟩⟩)); go_meet
   case rel => exact ⟨_, (!t1001), rs_, H', ⟨by first | omega | exact Nat.le_refl _⟩, by repeat (first | exact Drawn0.refl _ | apply Drawn0.step)⟩
 case rest =>
  clear HC2; obtain ⟨kq, x11_1, rfl, HA, HJ1, ⟨mc1, rfl⟩⟩ := hcut
  cases kq with
  | zero => exact absurd HA.out (by simp [spec_l4Filling.j0])
  | succ kj1 =>
   have H := HA.out; clear HA; simp only [spec_l4Filling.j0] at H
   by_cases c5 : x11_1 = true
   ·subst c5; replace H := it_ H; obtain rfl := si_ H; go_wp2; go_ret; exact ⟨by first | rfl | (simp; done) | (simp [*]; done), by repeat (first | exact Drawn0.refl _ | apply Drawn0.step)⟩
   ·replace c5 := Bool.eq_false_iff.mpr c5; subst c5; replace H := if_ H; have H' := am_ H; clear H; go_wp2
    go_loopg [3] kj1 (fun kq v3 w' => ∃ (x3_2 : Int), v3 = .int .i64 x3_2 ∧ Aside0 (spec_l4Filling.l0 kq a0 x3_2 = some r) ∧ Aside0 (kq ≤ kj1) ∧ Drawn0 w w')
    case atStart => exact ⟨(0), rs_, H', ⟨Nat.le_refl _⟩, by repeat (first | exact Drawn0.refl _ | apply Drawn0.step)⟩
    case round =>
     clear H'; (try clear c5); obtain ⟨x3_2, rfl, HA, HK2, ⟨m2, rfl⟩⟩ := hrel
     cases gk with
     | zero => exact absurd HA.out (by simp [spec_l4Filling.l0])
     | succ k2 =>
      have H := HA.out; clear HA; simp only [spec_l4Filling.l0] at H
      by_cases c6 : x3_2 < (a0.size : Int)
      ·rw [if_pos c6] at H; have c6b0 := decide_eq_true c6; clear c6; replace H := is_ H; obtain ⟨c7, H⟩ := H; have c7b0 := decide_eq_true c7; clear c7
       by_cases c9 : (bt a0 x3_2) = 36
       ·rw [if_pos c9] at H; have c9b0 := eb_ c9; have c9b1 := en_ c9; clear c9
        by_cases c10 : (wrap64 (x3_2 + 1)) = (a0.size : Int)
        ·rw [if_pos c10] at H; have c10b0 := eb_ c10; have c10b1 := en_ c10; clear c10; obtain rfl := si_ H; have p8 : 0 ≤ (x3_2 : Int) := od_; have q8 : x3_2 < (a0.size : Int) := od_; have hx8 := bt_at a0 x3_2; replace p8 := eq_true p8; replace q8 := eq_true q8; go_wp2; go_ret; exact ⟨by first | rfl | (simp; done) | (simp [*]; done), by repeat (first | exact Drawn0.refl _ | apply Drawn0.step)⟩
        ·rw [if_neg c10] at H; have c10b0 := nb_ c10; have c10b1 := nn_ c10; obtain ⟨ji11, hji11⟩ : ∃ j_ : Int, (wrap64 (x3_2 + 1)) = j_ := ⟨_, rfl⟩; replace H : (if 0 ≤ (ji11) then (if (ji11) < (a0.size : Int) then (if (bt a0 (ji11)) = 36 then (spec_l4Filling.l0 k2 a0 (wrap64 ((ji11) + 1))) else (if (bt a0 (ji11)) < 49 then (some false) else (if (bt a0 (ji11)) > 57 then (some false) else (spec_l4Filling.l0 k2 a0 (wrap64 ((ji11) + 1)))))) else (none)) else (none)) = some r := by first | (rw [hji11] at H; exact H) | (simp only [hji11] at H ⊢; exact H)
         (try rw [hji11] at c10b0); (try rw [hji11] at c10b1); have hji11w : (IntKind.i64.wrap (x3_2 + 1)) = ji11 := (i64_w _).trans hji11; replace H := is_ H; obtain ⟨c12, H⟩ := H; have c12b0 := decide_eq_true c12; clear c12; replace H := is_ H; obtain ⟨c13, H⟩ := H; have c13b0 := decide_eq_true c13; clear c13
         by_cases c15 : (bt a0 (ji11)) = 36
         ·rw [if_pos c15] at H; have c15b0 := eb_ c15; have c15b1 := en_ c15; clear c15; have H' := am_ H; clear H; have p8 : 0 ≤ (x3_2 : Int) := od_; have q8 : x3_2 < (a0.size : Int) := od_; have hx8 := bt_at a0 x3_2; replace p8 := eq_true p8; replace q8 := eq_true q8; have p14 : 0 ≤ ((ji11) : Int) := od_; have q14 : (ji11) < (a0.size : Int) := od_; have hx14 := bt_at a0 (ji11); replace p14 := eq_true p14; replace q14 := eq_true q14; go_wp2; go_roundg k2
          case measure => have := HJ1.out; have := HK2.out; omega
          case rel => exact ⟨(wrap64 ((ji11) + 1)), (by first | rfl | (simp; done) | (simp only [← hji11] <;> (first | rfl | simp)) | (simp [*]; done)), (by first | exact H' | (simp only [hji11]; exact H') | (rw [hji11]; exact H')), ⟨by have := HJ1.out; have := HK2.out; omega⟩, by repeat (first | exact Drawn0.refl _ | apply Drawn0.step)⟩
         ·rw [if_neg c15] at H; have c15b0 := nb_ c15; have c15b1 := nn_ c15
          by_cases c17 : (bt a0 (ji11)) < 49
          ·rw [if_pos c17] at H; have c17b0 := decide_eq_true c17; clear c17; obtain rfl := si_ H; have p8 : 0 ≤ (x3_2 : Int) := od_; have q8 : x3_2 < (a0.size : Int) := od_; have hx8 := bt_at a0 x3_2; replace p8 := eq_true p8; replace q8 := eq_true q8; have p14 : 0 ≤ ((ji11) : Int) := od_; have q14 : (ji11) < (a0.size : Int) := od_; have hx14 := bt_at a0 (ji11); replace p14 := eq_true p14; replace q14 := eq_true q14; have p16 : 0 ≤ ((ji11) : Int) := od_; have q16 : (ji11) < (a0.size : Int) := od_; have hx16 := bt_at a0 (ji11); replace p16 := eq_true p16; replace q16 := eq_true q16; go_wp2; go_ret; exact ⟨by first | rfl | (simp; done) | (simp only [← hji11] <;> (first | rfl | simp)) | (simp [*]; done), by repeat (first | exact Drawn0.refl _ | apply Drawn0.step)⟩
          ·rw [if_neg c17] at H; have c17b0 := decide_eq_false c17; clear c17
           by_cases c19 : (bt a0 (ji11)) > 57
           ·rw [if_pos c19] at H; have c19b0 := dg_ c19; clear c19; obtain rfl := si_ H; have p8 : 0 ≤ (x3_2 : Int) := od_; have q8 : x3_2 < (a0.size : Int) := od_; have hx8 := bt_at a0 x3_2; replace p8 := eq_true p8; replace q8 := eq_true q8; have p14 : 0 ≤ ((ji11) : Int) := od_; have q14 : (ji11) < (a0.size : Int) := od_; have hx14 := bt_at a0 (ji11); replace p14 := eq_true p14; replace q14 := eq_true q14; have p16 : 0 ≤ ((ji11) : Int) := od_; have q16 : (ji11) < (a0.size : Int) := od_; have hx16 := bt_at a0 (ji11); replace p16 := eq_true p16; replace q16 := eq_true q16; have p18 : 0 ≤ ((ji11) : Int) := od_; have q18 : (ji11) < (a0.size : Int) := od_; have hx18 := bt_at a0 (ji11); replace p18 := eq_true p18; replace q18 := eq_true q18; go_wp2; go_ret; exact ⟨by first | rfl | (simp; done) | (simp only [← hji11] <;> (first | rfl | simp)) | (simp [*]; done), by repeat (first | exact Drawn0.refl _ | apply Drawn0.step)⟩
           ·rw [if_neg c19] at H; have c19b0 := df_ c19; clear c19; have H' := am_ H; clear H; have p8 : 0 ≤ (x3_2 : Int) := od_; have q8 : x3_2 < (a0.size : Int) := od_; have hx8 := bt_at a0 x3_2; replace p8 := eq_true p8; replace q8 := eq_true q8; have p14 : 0 ≤ ((ji11) : Int) := od_; have q14 : (ji11) < (a0.size : Int) := od_; have hx14 := bt_at a0 (ji11); replace p14 := eq_true p14; replace q14 := eq_true q14; have p16 : 0 ≤ ((ji11) : Int) := od_; have q16 : (ji11) < (a0.size : Int) := od_; have hx16 := bt_at a0 (ji11); replace p16 := eq_true p16; replace q16 := eq_true q16; have p18 : 0 ≤ ((ji11) : Int) := od_; have q18 : (ji11) < (a0.size : Int) := od_; have hx18 := bt_at a0 (ji11); replace p18 := eq_true p18; replace q18 := eq_true q18; go_wp2; go_roundg k2
            case measure => have := HJ1.out; have := HK2.out; omega
            case rel => exact ⟨(wrap64 ((ji11) + 1)), (by first | rfl | (simp; done) | (simp only [← hji11] <;> (first | rfl | simp)) | (simp [*]; done)), (by first | exact H' | (simp only [hji11]; exact H') | (rw [hji11]; exact H')), ⟨by have := HJ1.out; have := HK2.out; omega⟩, by repeat (first | exact Drawn0.refl _ | apply Drawn0.step)⟩
       ·rw [if_neg c9] at H; have c9b0 := nb_ c9; have c9b1 := nn_ c9; have H' := am_ H; clear H; have p8 : 0 ≤ (x3_2 : Int) := od_; have q8 : x3_2 < (a0.size : Int) := od_; have hx8 := bt_at a0 x3_2; replace p8 := eq_true p8; replace q8 := eq_true q8; go_wp2; go_roundg k2
        case measure => have := HJ1.out; have := HK2.out; omega
        case rel => exact ⟨(wrap64 (x3_2 + 1)), rs_, H', ⟨by have := HJ1.out; have := HK2.out; omega⟩, by repeat (first | exact Drawn0.refl _ | apply Drawn0.step)⟩
      ·rw [if_neg c6] at H; have c6b0 := decide_eq_false c6; clear c6; obtain rfl := si_ H; go_wp2; go_ret; exact ⟨by first | rfl | (simp; done) | (simp [*]; done), by repeat (first | exact Drawn0.refl _ | apply Drawn0.step)⟩

/-! ### laws_toStringS: function 7 -/
def laws_toStringS.l0 : Nat → List ByteArray → List ByteArray → Int → Option (List ByteArray)
 | 0, _, _, _ => none
 | k + 1, x0, x3, x4 => if x4 < (x0.length : Int) then (if 0 ≤ x4 then (if x4 < (x3.length : Int) then (laws_toStringS.l0 k x0 (x3.set (x4 : Int).toNat (rdOf ByteArray.empty x0 x4)) (wrap64 (x4 + 1))) else (none)) else (none)) else (some x3)
def laws_toStringS.f (k : Nat) (l0 : List ByteArray) : Option (List ByteArray) := if 0 ≤ (l0.length : Int) then (if ((l0.length : Int) : Int).toNat ≤ 17592186044416 then (laws_toStringS.l0 k l0 (List.replicate ((l0.length : Int) : Int).toNat (⟨#[]⟩ : ByteArray)) 0) else (none)) else (none)
theorem laws_toStringS.mono_l : ∀ k, (∀ y0 y1 y2, LeO (laws_toStringS.l0 k y0 y1 y2) (laws_toStringS.l0 (k + 1) y0 y1 y2))
 | 0 => fun _ _ _ r h => by simp [laws_toStringS.l0] at h
 | k + 1 => by
  have ih0 := laws_toStringS.mono_l k
  ·intro y0 y1 y2
   unfold laws_toStringS.l0
   repeat' with_reducible first | apply ih0 | apply LeO.refl | apply LeO.none | apply LeO.ite | refine LeO.bind ?_ (fun _ => ?_)
theorem laws_toStringS.mono : ∀ a0 k, LeO (laws_toStringS.f k a0) (laws_toStringS.f (k + 1) a0) := by
 intro a0 k
 have ih0 := laws_toStringS.mono_l k
 unfold laws_toStringS.f
 repeat' with_reducible first | apply ih0 | apply LeO.refl | apply LeO.none | apply LeO.ite | refine LeO.bind ?_ (fun _ => ?_)
set_option maxHeartbeats 8000000 in
set_option maxRecDepth 100000 in
theorem laws_toStringS.calls (k : Nat) (A0 : Option Addr) (c0 : Nat) (l0 : List ByteArray) (r : List ByteArray) (w : World) (hr0 : Kd.C Kd.string w A0 l0.length l0) (hc0 : l0.length ≤ c0) (h : laws_toStringS.f k l0 = some r) :
  Calls Try.prog 7 #[.slice A0 l0.length c0] w fun e w' => ∃ v0_ : Value, e = .returned (v0_) ∧ Kd.R Kd.string 9 w' w.heap.size (fun _ => True) v0_ r ∧ Below w.heap.size w w' := by
 have HR0 := am_ hr0; have HC0 := am_ hc0; clear hr0 hc0; have HB := am_ (Below.refl w.heap.size w); have H := h; clear h; unfold laws_toStringS.f at H; replace H := is_ H; obtain ⟨c2, H⟩ := H; have c2b0 := eq_true c2; have c2b1 := decide_eq_true c2; clear c2; replace H := is_ H; obtain ⟨c3, H⟩ := H; have c3b0 := eq_true c3; have c3b1 := decide_eq_true c3; clear c3; obtain ⟨y1001, hy1001⟩ : ∃ y_ : List ByteArray, y_ = (List.replicate ((l0.length : Int) : Int).toNat (⟨#[]⟩ : ByteArray)) := ⟨_, rfl⟩; replace H : (laws_toStringS.l0 k l0 y1001 0) = some r := by first | (rw [hy1001]; with_reducible exact H) | (have H2_ := (Option.bind_some _ _).symm.trans H; rw [hy1001]; with_reducible exact H2_) | (have H2_ := (Option.bind_some _ _).symm.trans H; with_reducible exact H2_) | with_reducible exact H | (rw [hy1001]; exact H) | exact H
 have Ny1001 := am_ hy1001; clear hy1001; have H' := am_ H; clear H; go_enter Try.func7, Try.ntmps7; go_wp2_with (first | ((with_reducible refine gate_dst (N := 7) rfl ?_); refine Kd.R_make Kd.string _ 9 rfl (N := 7) rfl 22 _ _ rfl (l0.length : Int) rfl rfl Try.underlying22 (.string ⟨#[]⟩) 16 info9 rfl (by decide) (by omega) (⟨#[]⟩ : ByteArray) (ok := fun _ => True) (okp := fun _ => True) rfl (fun _ hk => hk) trivial (od_) (Nat.le_trans (Nat.mul_le_mul_right _ (od_ : (l0.length : Int).toNat ≤ 17592186044416)) (by omega)) (Below.refl _ _) (Nat.le_refl _) ?_; intro v1002 w4 ho5 hb hg_ hnew_; clear hg_ hnew_; (first | rw [← Ny1001.out] at ho5 | (simp only [Int.reduceToNat] at ho5; rw [← Ny1001.out] at ho5)); have HO1003 := am_ (Kd.R_lower ho5 (below_size bl_)); replace HB := am_ (below_step bl_ hb); clear hb ho5))
 go_loopg [4] k (fun kq v4 w' => ∃ (x3_1 : List ByteArray) (x4_1 : Int), v4 = .int .i64 x4_1 ∧ Aside0 (laws_toStringS.l0 kq l0 x3_1 x4_1 = some r) ∧ Aside0 (kq ≤ k) ∧ Aside0 (Kd.R Kd.string 9 w' w.heap.size (fun _ => True) v1002 x3_1) ∧ Aside0 (Below w.heap.size w w'))
 case atStart => exact ⟨(y1001), (0), rs_, H', ⟨Nat.le_refl _⟩, ⟨ro_ HO1003⟩, ⟨bl_⟩⟩
 case round =>
  clear H'; (try clear c2); (try clear c2b0); (try clear c2b1); (try clear c3); (try clear c3b0); (try clear c3b1); obtain ⟨x3_1, x4_1, rfl, HA, HK1, HO_3, HB⟩ := hrel
  cases gk with
  | zero => exact absurd HA.out (by simp [laws_toStringS.l0])
  | succ k1 =>
   have H := HA.out; clear HA; simp only [laws_toStringS.l0] at H
   by_cases c6 : x4_1 < (l0.length : Int)
   ·rw [if_pos c6] at H; have c6b0 := decide_eq_true c6; clear c6; replace H := is_ H; obtain ⟨c7, H⟩ := H; have c7b0 := decide_eq_true c7; clear c7; replace H := is_ H; obtain ⟨c8, H⟩ := H; have c8b0 := decide_eq_true c8; clear c8; obtain ⟨y1005, hy1005⟩ : ∃ y_ : List ByteArray, y_ = (x3_1.set (x4_1 : Int).toNat (rdOf ByteArray.empty l0 x4_1)) := ⟨_, rfl⟩; replace H : (laws_toStringS.l0 k1 l0 y1005 (wrap64 (x4_1 + 1))) = some r := by first | (rw [hy1005]; with_reducible exact H) | (have H2_ := (Option.bind_some _ _).symm.trans H; rw [hy1005]; with_reducible exact H2_) | (have H2_ := (Option.bind_some _ _).symm.trans H; with_reducible exact H2_) | with_reducible exact H | (rw [hy1005]; exact H) | exact H
    have Ny1005 := am_ hy1005; clear hy1005; have H' := am_ H; clear H; have p1004 : 0 ≤ (x4_1 : Int) := od_; have q1004 : x4_1 < (l0.length : Int) := od_; obtain ⟨ad1004, e1004, hx1004_0⟩ := Kd.at_string HR0.out x4_1 p1004 q1004
    cases e1004
    replace hx1004_0 := kp_ HB hx1004_0; replace p1004 := eq_true p1004; replace q1004 := eq_true q1004; have p9 : 0 ≤ (x4_1 : Int) := od_; have q9 : (x4_1 : Int) < ((x3_1.length : Int) : Int) := od_; obtain ⟨go9, co9, eo9, gb9, gl9, cl9, HG9⟩ := Kd.R_form HO_3.out (by omega); (first | cases eo9 | (injection eo9 with ea_ en_ ec_; (first | subst ea_ | (injection ea_ with ea_; subst ea_)); subst ec_; clear en_)); have GB9 := am_ gb9; have GG9 := am_ HG9; clear gb9 gl9 HG9; obtain ⟨hx9_0, hf9_0⟩ := Kd.R_celln (⟨#[]⟩ : ByteArray) HO_3.out (x4_1 : Int) p9 q9; replace p9 := eq_true p9; replace q9 := eq_true q9; have HP10 := Kd.R_putg HO_3.out (x4_1 : Int) (rdOf ByteArray.empty l0 x4_1); go_wp2_with (first | ((with_reducible refine gate_store (t := 9) (p := 20) rfl ?_); refine store_event (t := 9) (p := 20) (v := ?vo_w11) (w1 := (wr.setCell ⟨go9, (x4_1 : Int).toNat, none⟩ (.string (rdOf ByteArray.empty l0 x4_1)))) ?hg ?ho ?hn ?hr ?_; (case ho => rfl); (case hg => rfl); (case hn => rfl); (case hr => first | (go_simp; done) | (go_simp; rfl) | ((try (obtain ⟨_, _, e_⟩ := Kd.R_slice HO1003.out; subst e_)); go_simp; first | done | rfl)); intro w11 hw; have hg : wr.grownBy w11 (some go9) := (by rw [hw]; exact HP10.2); have hp_ : Kd.R Kd.string 9 w11 w.heap.size (fun _ => True) (.slice (some ⟨go9, 0, none⟩) x3_1.length co9) y1005 := (by rw [hw, Ny1005.out]; exact HP10.1); clear HP10; replace HO_3 := am_ (hp_); replace HB := am_ ((by rw [hw]; exact below_set (HB.out) GB9.out : Below w.heap.size w w11)); clear hg hw hp_)); go_roundg k1
    case measure => have := HK1.out; omega
    case rel => exact ⟨(y1005), (wrap64 (x4_1 + 1)), rs_, H', ⟨by have := HK1.out; omega⟩, ⟨ro_ HO_3⟩, ⟨bl_⟩⟩
   ·rw [if_neg c6] at H; have c6b0 := decide_eq_false c6; clear c6; obtain rfl := si_ H; go_wp2; go_ret; exact ⟨_, rf_, by (with_reducible repeat (first | apply Kd.R_alloc | apply Kd.R_drewN | apply Kd.R_drew)); exact HO_3.out, bl_⟩

/-! ### impl_printed: function 40 -/
def impl_printed.l0 : Nat → ByteArray → Int → Int → Option (Bool)
 | 0, _, _, _ => none
 | k + 1, x0, x11, x12 => if x12 < x11 then (if 0 ≤ x12 then (if x12 < (x0.size : Int) then (if (bt x0 x12) < 32 then (some false) else (if (bt x0 x12) > 126 then (some false) else (impl_printed.l0 k x0 x11 (wrap64 (x12 + 1))))) else (none)) else (none)) else (some true)
def impl_printed.f (k : Nat) (a0 : ByteArray) (a1 : Int) : Option (Bool) := if (a0.size : Int) > a1 then (some false) else (impl_printed.l0 k a0 (a0.size : Int) 0)
theorem impl_printed.mono_l : ∀ k, (∀ y0 y1 y2, LeO (impl_printed.l0 k y0 y1 y2) (impl_printed.l0 (k + 1) y0 y1 y2))
 | 0 => fun _ _ _ r h => by simp [impl_printed.l0] at h
 | k + 1 => by
  have ih0 := impl_printed.mono_l k
  ·intro y0 y1 y2
   unfold impl_printed.l0
   repeat' with_reducible first | apply ih0 | apply LeO.refl | apply LeO.none | apply LeO.ite | refine LeO.bind ?_ (fun _ => ?_)
theorem impl_printed.mono : ∀ a0 a1 k, LeO (impl_printed.f k a0 a1) (impl_printed.f (k + 1) a0 a1) := by
 intro a0 a1 k
 have ih0 := impl_printed.mono_l k
 unfold impl_printed.f
 repeat' with_reducible first | apply ih0 | apply LeO.refl | apply LeO.none | apply LeO.ite | refine LeO.bind ?_ (fun _ => ?_)
set_option maxHeartbeats 8000000 in
set_option maxRecDepth 100000 in
theorem impl_printed.calls (k : Nat) (a0 : ByteArray) (a1 : Int) (r : Bool) (w : World) (h : impl_printed.f k a0 a1 = some r) :
  Calls Try.prog 40 #[.string a0, .int .i64 a1] w fun e w' => e = .returned (.bool r) ∧ Drawn0 w w' := by
 have H := h; clear h; unfold impl_printed.f at H
 by_cases c3 : (a0.size : Int) > a1
 ·rw [if_pos c3] at H; have c3b0 := dg_ c3; clear c3; obtain rfl := si_ H; go_enter Try.func40, Try.ntmps40; go_wp2; go_ret; exact ⟨by first | rfl | (simp; done) | (simp [*]; done), by repeat (first | exact Drawn0.refl _ | apply Drawn0.step)⟩
 ·rw [if_neg c3] at H; have c3b0 := df_ c3; clear c3; have H' := am_ H; clear H; go_enter Try.func40, Try.ntmps40; go_wp2
  go_loopg [12] k (fun kq v12 w' => ∃ (x12_1 : Int), v12 = .int .i64 x12_1 ∧ Aside0 (impl_printed.l0 kq a0 (a0.size : Int) x12_1 = some r) ∧ Aside0 (kq ≤ k) ∧ Drawn0 w w')
  case atStart => exact ⟨(0), rs_, H', ⟨Nat.le_refl _⟩, by repeat (first | exact Drawn0.refl _ | apply Drawn0.step)⟩
  case round =>
   clear H'; (try clear c3); (try clear c3b0); obtain ⟨x12_1, rfl, HA, HK1, ⟨m1, rfl⟩⟩ := hrel
   cases gk with
   | zero => exact absurd HA.out (by simp [impl_printed.l0])
   | succ k1 =>
    have H := HA.out; clear HA; simp only [impl_printed.l0] at H
    by_cases c4 : x12_1 < (a0.size : Int)
    ·rw [if_pos c4] at H; have c4b0 := decide_eq_true c4; clear c4; replace H := is_ H; obtain ⟨c5, H⟩ := H; have c5b0 := decide_eq_true c5; clear c5; replace H := is_ H; obtain ⟨c6, H⟩ := H; have c6b0 := decide_eq_true c6; clear c6
     by_cases c8 : (bt a0 x12_1) < 32
     ·rw [if_pos c8] at H; have c8b0 := decide_eq_true c8; clear c8; obtain rfl := si_ H; have p7 : 0 ≤ (x12_1 : Int) := od_; have q7 : x12_1 < (a0.size : Int) := od_; have hx7 := bt_at a0 x12_1; replace p7 := eq_true p7; replace q7 := eq_true q7; go_wp2; go_ret; exact ⟨by first | rfl | (simp; done) | (simp [*]; done), by repeat (first | exact Drawn0.refl _ | apply Drawn0.step)⟩
     ·rw [if_neg c8] at H; have c8b0 := decide_eq_false c8; clear c8
      by_cases c10 : (bt a0 x12_1) > 126
      ·rw [if_pos c10] at H; have c10b0 := dg_ c10; clear c10; obtain rfl := si_ H; have p7 : 0 ≤ (x12_1 : Int) := od_; have q7 : x12_1 < (a0.size : Int) := od_; have hx7 := bt_at a0 x12_1; replace p7 := eq_true p7; replace q7 := eq_true q7; have p9 : 0 ≤ (x12_1 : Int) := od_; have q9 : x12_1 < (a0.size : Int) := od_; have hx9 := bt_at a0 x12_1; replace p9 := eq_true p9; replace q9 := eq_true q9; go_wp2; go_ret; exact ⟨by first | rfl | (simp; done) | (simp [*]; done), by repeat (first | exact Drawn0.refl _ | apply Drawn0.step)⟩
      ·rw [if_neg c10] at H; have c10b0 := df_ c10; clear c10; have H' := am_ H; clear H; have p7 : 0 ≤ (x12_1 : Int) := od_; have q7 : x12_1 < (a0.size : Int) := od_; have hx7 := bt_at a0 x12_1; replace p7 := eq_true p7; replace q7 := eq_true q7; have p9 : 0 ≤ (x12_1 : Int) := od_; have q9 : x12_1 < (a0.size : Int) := od_; have hx9 := bt_at a0 x12_1; replace p9 := eq_true p9; replace q9 := eq_true q9; go_wp2; go_roundg k1
       case measure => have := HK1.out; omega
       case rel => exact ⟨(wrap64 (x12_1 + 1)), rs_, H', ⟨by have := HK1.out; omega⟩, by repeat (first | exact Drawn0.refl _ | apply Drawn0.step)⟩
    ·rw [if_neg c4] at H; have c4b0 := decide_eq_false c4; clear c4; obtain rfl := si_ H; go_wp2; go_ret; exact ⟨by first | rfl | (simp; done) | (simp [*]; done), by repeat (first | exact Drawn0.refl _ | apply Drawn0.step)⟩

/-! ### impl_isFilling: function 21 -/
def impl_isFilling.l0 : Nat → ByteArray → Int → Option (Bool)
 | 0, _, _ => none
 | k + 1, x0, x3 => if x3 < (x0.size : Int) then (if 0 ≤ x3 then (if (bt x0 x3) = 36 then (if (wrap64 (x3 + 1)) = (x0.size : Int) then (some false) else (if 0 ≤ (wrap64 (x3 + 1)) then (if (wrap64 (x3 + 1)) < (x0.size : Int) then (if (bt x0 (wrap64 (x3 + 1))) = 36 then (impl_isFilling.l0 k x0 (wrap64 ((wrap64 (x3 + 1)) + 1))) else (if (bt x0 (wrap64 (x3 + 1))) < 49 then (some false) else (if (bt x0 (wrap64 (x3 + 1))) > 57 then (some false) else (impl_isFilling.l0 k x0 (wrap64 ((wrap64 (x3 + 1)) + 1)))))) else (none)) else (none))) else (impl_isFilling.l0 k x0 (wrap64 (x3 + 1)))) else (none)) else (some true)
def impl_isFilling.f (k : Nat) (a0 : ByteArray) : Option (Bool) := (impl_printed.f k a0 100).bind fun t1001 => (if t1001 = true then (impl_isFilling.l0 k a0 0) else (some false))
theorem impl_isFilling.mono_l : ∀ k, (∀ y0 y1, LeO (impl_isFilling.l0 k y0 y1) (impl_isFilling.l0 (k + 1) y0 y1))
 | 0 => fun _ _ r h => by simp [impl_isFilling.l0] at h
 | k + 1 => by
  have ih0 := impl_isFilling.mono_l k
  ·intro y0 y1
   unfold impl_isFilling.l0
   repeat' with_reducible first | apply ih0 | apply impl_printed.mono | apply LeO.refl | apply LeO.none | apply LeO.ite | refine LeO.bind ?_ (fun _ => ?_)
theorem impl_isFilling.mono : ∀ a0 k, LeO (impl_isFilling.f k a0) (impl_isFilling.f (k + 1) a0) := by
 intro a0 k
 have ih0 := impl_isFilling.mono_l k
 unfold impl_isFilling.f
 repeat' with_reducible first | apply ih0 | apply impl_printed.mono | apply LeO.refl | apply LeO.none | apply LeO.ite | refine LeO.bind ?_ (fun _ => ?_)
set_option maxHeartbeats 8000000 in
set_option maxRecDepth 100000 in
theorem impl_isFilling.calls (k : Nat) (a0 : ByteArray) (r : Bool) (w : World) (h : impl_isFilling.f k a0 = some r) :
  Calls Try.prog 21 #[.string a0] w fun e w' => e = .returned (.bool r) ∧ Drawn0 w w' := by
 have H := h; clear h; unfold impl_isFilling.f at H; replace H := bs_ H; obtain ⟨t1001, A2, H⟩ := H
 by_cases c3 : t1001 = true
 ·subst c3; replace H := it_ H; have H' := am_ H; clear H; go_enter Try.func21, Try.ntmps21; go_wp2_with (first | ((with_reducible refine gate_callee (f := 40) rfl ?_); refine gl_ 5 Try.func40 #[.string a0, .int .i64 100] ?_; (with_reducible refine (impl_printed.calls k a0 100 true _ A2.out).mono ?_); rintro e w' ⟨rfl, ⟨nd, rfl⟩⟩; refine ⟨_, rfl, ?_⟩))
  go_loopg [3] k (fun kq v3 w' => ∃ (x3_1 : Int), v3 = .int .i64 x3_1 ∧ Aside0 (impl_isFilling.l0 kq a0 x3_1 = some r) ∧ Aside0 (kq ≤ k) ∧ Drawn0 w w')
  case atStart => exact ⟨(0), rs_, H', ⟨Nat.le_refl _⟩, by repeat (first | exact Drawn0.refl _ | apply Drawn0.step)⟩
  case round =>
   clear H'; (try clear c3); obtain ⟨x3_1, rfl, HA, HK1, ⟨m1, rfl⟩⟩ := hrel
   cases gk with
   | zero => exact absurd HA.out (by simp [impl_isFilling.l0])
   | succ k1 =>
    have H := HA.out; clear HA; simp only [impl_isFilling.l0] at H
    by_cases c4 : x3_1 < (a0.size : Int)
    ·rw [if_pos c4] at H; have c4b0 := decide_eq_true c4; clear c4; replace H := is_ H; obtain ⟨c5, H⟩ := H; have c5b0 := decide_eq_true c5; clear c5
     by_cases c7 : (bt a0 x3_1) = 36
     ·rw [if_pos c7] at H; have c7b0 := eb_ c7; have c7b1 := en_ c7; clear c7
      by_cases c8 : (wrap64 (x3_1 + 1)) = (a0.size : Int)
      ·rw [if_pos c8] at H; have c8b0 := eb_ c8; have c8b1 := en_ c8; clear c8; obtain rfl := si_ H; have p6 : 0 ≤ (x3_1 : Int) := od_; have q6 : x3_1 < (a0.size : Int) := od_; have hx6 := bt_at a0 x3_1; replace p6 := eq_true p6; replace q6 := eq_true q6; go_wp2; go_ret; exact ⟨by first | rfl | (simp; done) | (simp [*]; done), by repeat (first | exact Drawn0.refl _ | apply Drawn0.step)⟩
      ·rw [if_neg c8] at H; have c8b0 := nb_ c8; have c8b1 := nn_ c8; obtain ⟨ji9, hji9⟩ : ∃ j_ : Int, (wrap64 (x3_1 + 1)) = j_ := ⟨_, rfl⟩; replace H : (if 0 ≤ (ji9) then (if (ji9) < (a0.size : Int) then (if (bt a0 (ji9)) = 36 then (impl_isFilling.l0 k1 a0 (wrap64 ((ji9) + 1))) else (if (bt a0 (ji9)) < 49 then (some false) else (if (bt a0 (ji9)) > 57 then (some false) else (impl_isFilling.l0 k1 a0 (wrap64 ((ji9) + 1)))))) else (none)) else (none)) = some r := by first | (rw [hji9] at H; exact H) | (simp only [hji9] at H ⊢; exact H)
       (try rw [hji9] at c8b0); (try rw [hji9] at c8b1); have hji9w : (IntKind.i64.wrap (x3_1 + 1)) = ji9 := (i64_w _).trans hji9; replace H := is_ H; obtain ⟨c10, H⟩ := H; have c10b0 := decide_eq_true c10; clear c10; replace H := is_ H; obtain ⟨c11, H⟩ := H; have c11b0 := decide_eq_true c11; clear c11
       by_cases c13 : (bt a0 (ji9)) = 36
       ·rw [if_pos c13] at H; have c13b0 := eb_ c13; have c13b1 := en_ c13; clear c13; have H' := am_ H; clear H; have p6 : 0 ≤ (x3_1 : Int) := od_; have q6 : x3_1 < (a0.size : Int) := od_; have hx6 := bt_at a0 x3_1; replace p6 := eq_true p6; replace q6 := eq_true q6; have p12 : 0 ≤ ((ji9) : Int) := od_; have q12 : (ji9) < (a0.size : Int) := od_; have hx12 := bt_at a0 (ji9); replace p12 := eq_true p12; replace q12 := eq_true q12; go_wp2; go_roundg k1
        case measure => have := HK1.out; omega
        case rel => exact ⟨(wrap64 ((ji9) + 1)), (by first | rfl | (simp; done) | (simp only [← hji9] <;> (first | rfl | simp)) | (simp [*]; done)), (by first | exact H' | (simp only [hji9]; exact H') | (rw [hji9]; exact H')), ⟨by have := HK1.out; omega⟩, by repeat (first | exact Drawn0.refl _ | apply Drawn0.step)⟩
       ·rw [if_neg c13] at H; have c13b0 := nb_ c13; have c13b1 := nn_ c13
        by_cases c15 : (bt a0 (ji9)) < 49
        ·rw [if_pos c15] at H; have c15b0 := decide_eq_true c15; clear c15; obtain rfl := si_ H; have p6 : 0 ≤ (x3_1 : Int) := od_; have q6 : x3_1 < (a0.size : Int) := od_; have hx6 := bt_at a0 x3_1; replace p6 := eq_true p6; replace q6 := eq_true q6; have p12 : 0 ≤ ((ji9) : Int) := od_; have q12 : (ji9) < (a0.size : Int) := od_; have hx12 := bt_at a0 (ji9); replace p12 := eq_true p12; replace q12 := eq_true q12; have p14 : 0 ≤ ((ji9) : Int) := od_; have q14 : (ji9) < (a0.size : Int) := od_; have hx14 := bt_at a0 (ji9); replace p14 := eq_true p14; replace q14 := eq_true q14; go_wp2; go_ret; exact ⟨by first | rfl | (simp; done) | (simp only [← hji9] <;> (first | rfl | simp)) | (simp [*]; done), by repeat (first | exact Drawn0.refl _ | apply Drawn0.step)⟩
        ·rw [if_neg c15] at H; have c15b0 := decide_eq_false c15; clear c15
         by_cases c17 : (bt a0 (ji9)) > 57
         ·rw [if_pos c17] at H; have c17b0 := dg_ c17; clear c17; obtain rfl := si_ H; have p6 : 0 ≤ (x3_1 : Int) := od_; have q6 : x3_1 < (a0.size : Int) := od_; have hx6 := bt_at a0 x3_1; replace p6 := eq_true p6; replace q6 := eq_true q6; have p12 : 0 ≤ ((ji9) : Int) := od_; have q12 : (ji9) < (a0.size : Int) := od_; have hx12 := bt_at a0 (ji9); replace p12 := eq_true p12; replace q12 := eq_true q12; have p14 : 0 ≤ ((ji9) : Int) := od_; have q14 : (ji9) < (a0.size : Int) := od_; have hx14 := bt_at a0 (ji9); replace p14 := eq_true p14; replace q14 := eq_true q14; have p16 : 0 ≤ ((ji9) : Int) := od_; have q16 : (ji9) < (a0.size : Int) := od_; have hx16 := bt_at a0 (ji9); replace p16 := eq_true p16; replace q16 := eq_true q16; go_wp2; go_ret; exact ⟨by first | rfl | (simp; done) | (simp only [← hji9] <;> (first | rfl | simp)) | (simp [*]; done), by repeat (first | exact Drawn0.refl _ | apply Drawn0.step)⟩
         ·rw [if_neg c17] at H; have c17b0 := df_ c17; clear c17; have H' := am_ H; clear H; have p6 : 0 ≤ (x3_1 : Int) := od_; have q6 : x3_1 < (a0.size : Int) := od_; have hx6 := bt_at a0 x3_1; replace p6 := eq_true p6; replace q6 := eq_true q6; have p12 : 0 ≤ ((ji9) : Int) := od_; have q12 : (ji9) < (a0.size : Int) := od_; have hx12 := bt_at a0 (ji9); replace p12 := eq_true p12; replace q12 := eq_true q12; have p14 : 0 ≤ ((ji9) : Int) := od_; have q14 : (ji9) < (a0.size : Int) := od_; have hx14 := bt_at a0 (ji9); replace p14 := eq_true p14; replace q14 := eq_true q14; have p16 : 0 ≤ ((ji9) : Int) := od_; have q16 : (ji9) < (a0.size : Int) := od_; have hx16 := bt_at a0 (ji9); replace p16 := eq_true p16; replace q16 := eq_true q16; go_wp2; go_roundg k1
          case measure => have := HK1.out; omega
          case rel => exact ⟨(wrap64 ((ji9) + 1)), (by first | rfl | (simp; done) | (simp only [← hji9] <;> (first | rfl | simp)) | (simp [*]; done)), (by first | exact H' | (simp only [hji9]; exact H') | (rw [hji9]; exact H')), ⟨by have := HK1.out; omega⟩, by repeat (first | exact Drawn0.refl _ | apply Drawn0.step)⟩
     ·rw [if_neg c7] at H; have c7b0 := nb_ c7; have c7b1 := nn_ c7; have H' := am_ H; clear H; have p6 : 0 ≤ (x3_1 : Int) := od_; have q6 : x3_1 < (a0.size : Int) := od_; have hx6 := bt_at a0 x3_1; replace p6 := eq_true p6; replace q6 := eq_true q6; go_wp2; go_roundg k1
      case measure => have := HK1.out; omega
      case rel => exact ⟨(wrap64 (x3_1 + 1)), rs_, H', ⟨by have := HK1.out; omega⟩, by repeat (first | exact Drawn0.refl _ | apply Drawn0.step)⟩
    ·rw [if_neg c4] at H; have c4b0 := decide_eq_false c4; clear c4; obtain rfl := si_ H; go_wp2; go_ret; exact ⟨by first | rfl | (simp; done) | (simp [*]; done), by repeat (first | exact Drawn0.refl _ | apply Drawn0.step)⟩
 ·replace c3 := Bool.eq_false_iff.mpr c3; subst c3; replace H := if_ H; obtain rfl := si_ H; go_enter Try.func21, Try.ntmps21; go_wp2_with (first | ((with_reducible refine gate_callee (f := 40) rfl ?_); refine gl_ 5 Try.func40 #[.string a0, .int .i64 100] ?_; (with_reducible refine (impl_printed.calls k a0 100 false _ A2.out).mono ?_); rintro e w' ⟨rfl, ⟨nd, rfl⟩⟩; refine ⟨_, rfl, ?_⟩)); go_ret; exact ⟨by first | rfl | (simp; done) | (simp [*]; done), by repeat (first | exact Drawn0.refl _ | apply Drawn0.step)⟩

/-! ### laws_eqStringS: function 9 -/
def laws_eqStringS.l0 : Nat → List ByteArray → List ByteArray → Int → Option (Bool)
 | 0, _, _, _ => none
 | k + 1, x0, x1, x5 => if x5 < (x0.length : Int) then (if 0 ≤ x5 then (if x5 < (x1.length : Int) then (if (rdOf ByteArray.empty x0 x5).toList = (rdOf ByteArray.empty x1 x5).toList then (laws_eqStringS.l0 k x0 x1 (wrap64 (x5 + 1))) else (some false)) else (none)) else (none)) else (some true)
def laws_eqStringS.f (k : Nat) (l0 : List ByteArray) (l1 : List ByteArray) : Option (Bool) := if (l0.length : Int) = (l1.length : Int) then (laws_eqStringS.l0 k l0 l1 0) else (some false)
theorem laws_eqStringS.mono_l : ∀ k, (∀ y0 y1 y2, LeO (laws_eqStringS.l0 k y0 y1 y2) (laws_eqStringS.l0 (k + 1) y0 y1 y2))
 | 0 => fun _ _ _ r h => by simp [laws_eqStringS.l0] at h
 | k + 1 => by
  have ih0 := laws_eqStringS.mono_l k
  ·intro y0 y1 y2
   unfold laws_eqStringS.l0
   repeat' with_reducible first | apply ih0 | apply LeO.refl | apply LeO.none | apply LeO.ite | refine LeO.bind ?_ (fun _ => ?_)
theorem laws_eqStringS.mono : ∀ a0 a1 k, LeO (laws_eqStringS.f k a0 a1) (laws_eqStringS.f (k + 1) a0 a1) := by
 intro a0 a1 k
 have ih0 := laws_eqStringS.mono_l k
 unfold laws_eqStringS.f
 repeat' with_reducible first | apply ih0 | apply LeO.refl | apply LeO.none | apply LeO.ite | refine LeO.bind ?_ (fun _ => ?_)
set_option maxHeartbeats 8000000 in
set_option maxRecDepth 100000 in
theorem laws_eqStringS.calls (k : Nat) (A0 : Option Addr) (c0 : Nat) (l0 : List ByteArray) (A1 : Option Addr) (c1 : Nat) (l1 : List ByteArray) (r : Bool) (w : World) (hr0 : Kd.C Kd.string w A0 l0.length l0) (hc0 : l0.length ≤ c0) (hr1 : Kd.C Kd.string w A1 l1.length l1) (hc1 : l1.length ≤ c1) (h : laws_eqStringS.f k l0 l1 = some r) :
  Calls Try.prog 9 #[.slice A0 l0.length c0, .slice A1 l1.length c1] w fun e w' => e = .returned (.bool r) ∧ Drawn0 w w' := by
 have HR0 := am_ hr0; have HC0 := am_ hc0; clear hr0 hc0; have HR1 := am_ hr1; have HC1 := am_ hc1; clear hr1 hc1; have H := h; clear h; unfold laws_eqStringS.f at H
 by_cases c3 : (l0.length : Int) = (l1.length : Int)
 ·rw [if_pos c3] at H; have c3b0 := eb_ c3; have c3b1 := en_ c3; have c3b2 : (l0.length == l1.length) = true := by first | simpa using c3 | (simp at c3 ⊢; omega)
  clear c3; have H' := am_ H; clear H; go_enter Try.func9, Try.ntmps9; go_wp2; (repeat (go_quiet (fail); try go_wp2))
  go_loopg [5] k (fun kq v5 w' => ∃ (x5_1 : Int), v5 = .int .i64 x5_1 ∧ Aside0 (laws_eqStringS.l0 kq l0 l1 x5_1 = some r) ∧ Aside0 (kq ≤ k) ∧ Drawn0 w w')
  case atStart => exact ⟨(0), rs_, H', ⟨Nat.le_refl _⟩, by repeat (first | exact Drawn0.refl _ | apply Drawn0.step)⟩
  case round =>
   clear H'; (try clear c3); (try clear c3b0); (try clear c3b1); (try clear c3b2); obtain ⟨x5_1, rfl, HA, HK1, ⟨m1, rfl⟩⟩ := hrel
   cases gk with
   | zero => exact absurd HA.out (by simp [laws_eqStringS.l0])
   | succ k1 =>
    have H := HA.out; clear HA; simp only [laws_eqStringS.l0] at H
    by_cases c4 : x5_1 < (l0.length : Int)
    ·rw [if_pos c4] at H; have c4b0 := decide_eq_true c4; clear c4; replace H := is_ H; obtain ⟨c5, H⟩ := H; have c5b0 := decide_eq_true c5; clear c5; replace H := is_ H; obtain ⟨c6, H⟩ := H; have c6b0 := decide_eq_true c6; clear c6
     by_cases c7 : (rdOf ByteArray.empty l0 x5_1).toList = (rdOf ByteArray.empty l1 x5_1).toList
     ·rw [if_pos c7] at H; have c7b0 := eb_ c7; have c7b1 := en_ c7; clear c7; have H' := am_ H; clear H; have p1001 : 0 ≤ (x5_1 : Int) := od_; have q1001 : x5_1 < (l0.length : Int) := od_; obtain ⟨ad1001, e1001, hx1001_0⟩ := Kd.at_string HR0.out x5_1 p1001 q1001
      cases e1001
      replace p1001 := eq_true p1001; replace q1001 := eq_true q1001; have p1002 : 0 ≤ (x5_1 : Int) := od_; have q1002 : x5_1 < (l1.length : Int) := od_; obtain ⟨ad1002, e1002, hx1002_0⟩ := Kd.at_string HR1.out x5_1 p1002 q1002
      cases e1002
      replace p1002 := eq_true p1002; replace q1002 := eq_true q1002; go_wp2; (repeat (go_quiet (fail); try go_wp2)); go_roundg k1
      case measure => have := HK1.out; omega
      case rel => exact ⟨(wrap64 (x5_1 + 1)), rs_, H', ⟨by have := HK1.out; omega⟩, by repeat (first | exact Drawn0.refl _ | apply Drawn0.step)⟩
     ·rw [if_neg c7] at H; have c7b0 := nb_ c7; have c7b1 := nn_ c7; obtain rfl := si_ H; have p1001 : 0 ≤ (x5_1 : Int) := od_; have q1001 : x5_1 < (l0.length : Int) := od_; obtain ⟨ad1001, e1001, hx1001_0⟩ := Kd.at_string HR0.out x5_1 p1001 q1001
      cases e1001
      replace p1001 := eq_true p1001; replace q1001 := eq_true q1001; have p1002 : 0 ≤ (x5_1 : Int) := od_; have q1002 : x5_1 < (l1.length : Int) := od_; obtain ⟨ad1002, e1002, hx1002_0⟩ := Kd.at_string HR1.out x5_1 p1002 q1002
      cases e1002
      replace p1002 := eq_true p1002; replace q1002 := eq_true q1002; go_wp2; (repeat (go_quiet (fail); try go_wp2)); go_ret; exact ⟨by first | rfl | (simp; done) | (simp [*]; done), by repeat (first | exact Drawn0.refl _ | apply Drawn0.step)⟩
    ·rw [if_neg c4] at H; have c4b0 := decide_eq_false c4; clear c4; obtain rfl := si_ H; go_wp2; (repeat (go_quiet (fail); try go_wp2)); go_ret; exact ⟨by first | rfl | (simp; done) | (simp [*]; done), by repeat (first | exact Drawn0.refl _ | apply Drawn0.step)⟩
 ·rw [if_neg c3] at H; have c3b0 := nb_ c3; have c3b1 := nn_ c3; have c3b2 : (l0.length == l1.length) = false := by first | simpa using c3 | (simp at c3 ⊢; omega)
  obtain rfl := si_ H; go_enter Try.func9, Try.ntmps9; go_wp2; (repeat (go_quiet (fail); try go_wp2)); go_ret; exact ⟨by first | rfl | (simp; done) | (simp [*]; done), by repeat (first | exact Drawn0.refl _ | apply Drawn0.step)⟩

end Go.Proofs.Ytbejcmfpmoaddaa.Pr
