/- Functions of the given program as plain Lean functions, and that the machine's calls come to them; written by a program of this session; no condition but those that each theorem states. -/
import Derived.Test.YtfdbbpnmnogddaaPrx0
set_option maxHeartbeats 16000000
set_option maxRecDepth 100000
namespace Go.Proofs.Ytfdbbpnmnogddaa.Pr
open Go.RowKit Go.Proofs.YtfdbbpnmnogddaaW.PrintWords Go.Proofs.YtfdbbpnmnogddaaW.PrintLast Go.Proofs.YtfdbbpnmnogddaaW.PrintMore
attribute [local go_sem] max2_int min2_int max_two min_two max_three min_three max_four min_four
set_option linter.unusedVariables false
set_option linter.unusedSimpArgs false
def spec_l2Digit.f (a0 : Int) : Option (Bool):=if a0 ≥ 48 then (some (decide (a0 ≤ 57))) else (some false)
theorem spec_l2Digit.calls (a0 : Int) (r : Bool) (w : World) (h : spec_l2Digit.f a0 = some r) :
  Calls Try.prog 87 #[.int .u8 a0] w fun e w' => e = .returned (.bool r) ∧ Drawn0 w w':=by
 have H:=h;clear h;unfold spec_l2Digit.f at H
 by_cases c2 : a0 ≥ 48
 ·rw [if_pos c2] at H;have c2b0 : decide (48 ≤ a0) = true:=decide_eq_true c2;clear c2;obtain rfl:=si_ H;go_enter Try.func87,Try.ntmps87;go_wp2;go_ret;exact ⟨by first|rfl|(simp;done)|(simp [*];done),by repeat (first|exact Drawn0.refl _|apply Drawn0.step)⟩
 ·rw [if_neg c2] at H;have c2b0 : decide (48 ≤ a0) = false:=decide_eq_false c2;clear c2;obtain rfl:=si_ H;go_enter Try.func87,Try.ntmps87;go_wp2;go_ret;exact ⟨by first|rfl|(simp;done)|(simp [*];done),by repeat (first|exact Drawn0.refl _|apply Drawn0.step)⟩
def spec_l2Letter.f (a0 : Int) : Option (Bool):=if a0 ≥ 97 then (if a0 ≤ 122 then (some true) else (if a0 ≥ 65 then (some (decide (a0 ≤ 90))) else (some false))) else (if a0 ≥ 65 then (some (decide (a0 ≤ 90))) else (some false))
theorem spec_l2Letter.calls (a0 : Int) (r : Bool) (w : World) (h : spec_l2Letter.f a0 = some r) :
  Calls Try.prog 88 #[.int .u8 a0] w fun e w' => e = .returned (.bool r) ∧ Drawn0 w w':=by
 have H:=h;clear h;unfold spec_l2Letter.f at H
 by_cases c2 : a0 ≥ 97
 ·rw [if_pos c2] at H;have c2b0 : decide (97 ≤ a0) = true:=decide_eq_true c2;clear c2
  by_cases c3 : a0 ≤ 122
  ·rw [if_pos c3] at H;have c3b0:=decide_eq_true c3;clear c3;obtain rfl:=si_ H;go_enter Try.func88,Try.ntmps88;go_wp2;go_ret;exact ⟨by first|rfl|(simp;done)|(simp [*];done),by repeat (first|exact Drawn0.refl _|apply Drawn0.step)⟩
  ·rw [if_neg c3] at H;have c3b0:=decide_eq_false c3;clear c3
   by_cases c4 : a0 ≥ 65
   ·rw [if_pos c4] at H;have c4b0 : decide (65 ≤ a0) = true:=decide_eq_true c4;clear c4;obtain rfl:=si_ H;go_enter Try.func88,Try.ntmps88;go_wp2;go_ret;exact ⟨by first|rfl|(simp;done)|(simp [*];done),by repeat (first|exact Drawn0.refl _|apply Drawn0.step)⟩
   ·rw [if_neg c4] at H;have c4b0 : decide (65 ≤ a0) = false:=decide_eq_false c4;clear c4;obtain rfl:=si_ H;go_enter Try.func88,Try.ntmps88;go_wp2;go_ret;exact ⟨by first|rfl|(simp;done)|(simp [*];done),by repeat (first|exact Drawn0.refl _|apply Drawn0.step)⟩
 ·rw [if_neg c2] at H;have c2b0 : decide (97 ≤ a0) = false:=decide_eq_false c2;clear c2
  by_cases c5 : a0 ≥ 65
  ·rw [if_pos c5] at H;have c5b0 : decide (65 ≤ a0) = true:=decide_eq_true c5;clear c5;obtain rfl:=si_ H;go_enter Try.func88,Try.ntmps88;go_wp2;go_ret;exact ⟨by first|rfl|(simp;done)|(simp [*];done),by repeat (first|exact Drawn0.refl _|apply Drawn0.step)⟩
  ·rw [if_neg c5] at H;have c5b0 : decide (65 ≤ a0) = false:=decide_eq_false c5;clear c5;obtain rfl:=si_ H;go_enter Try.func88,Try.ntmps88;go_wp2;go_ret;exact ⟨by first|rfl|(simp;done)|(simp [*];done),by repeat (first|exact Drawn0.refl _|apply Drawn0.step)⟩
mutual
def spec_l2Name.j0 : Nat → ByteArray → Bool → Option (Bool)
 | 0,_,_ => none
 | k + 1,x0,x16 => if x16 = true then (some false) else (spec_l2Name.l0 k x0 0)
def spec_l2Name.l0 : Nat → ByteArray → Int → Option (Bool)
 | 0,_,_ => none
 | k + 1,x0,x3 => if x3 < (x0.size : Int) then (if 0 ≤ x3 then ((spec_l2Letter.f (bt x0 x3)).bind fun t1002 => (if t1002 = true then (spec_l2Name.l0 k x0 (wrap64 (x3 + 1))) else ((spec_l2Digit.f (bt x0 x3)).bind fun t1003 => (if t1003 = true then (spec_l2Name.l0 k x0 (wrap64 (x3 + 1))) else (if (bt x0 x3) = 95 then (spec_l2Name.l0 k x0 (wrap64 (x3 + 1))) else (some false)))))) else (none)) else (some true)
end
def spec_l2Name.f (k : Nat) (a0 : ByteArray) : Option (Bool):=if (a0.size : Int) < 1 then (spec_l2Name.j0 k a0 true) else (if (a0.size : Int) > 40 then (spec_l2Name.j0 k a0 true) else (if 0 < (a0.size : Int) then ((spec_l2Digit.f (bt a0 0)).bind fun t1001 => (spec_l2Name.j0 k a0 t1001)) else (none)))
theorem spec_l2Name.mono_l : ∀ k,(∀ y0 y1,LeO (spec_l2Name.j0 k y0 y1) (spec_l2Name.j0 (k + 1) y0 y1)) ∧ (∀ y0 y1,LeO (spec_l2Name.l0 k y0 y1) (spec_l2Name.l0 (k + 1) y0 y1))
 | 0 => ⟨fun _ _ r h => by simp [spec_l2Name.j0] at h,fun _ _ r h => by simp [spec_l2Name.l0] at h⟩
 | k + 1 => by
  obtain ⟨ih0,ih1⟩:=spec_l2Name.mono_l k
  refine ⟨?_,?_⟩
  ·intro y0 y1
   unfold spec_l2Name.j0
   repeat' with_reducible first|apply ih0|apply ih1|apply LeO.refl|apply LeO.none|apply LeO.ite|refine LeO.bind ?_ (fun _ => ?_)
  ·intro y0 y1
   unfold spec_l2Name.l0
   repeat' with_reducible first|apply ih0|apply ih1|apply LeO.refl|apply LeO.none|apply LeO.ite|refine LeO.bind ?_ (fun _ => ?_)
theorem spec_l2Name.mono : ∀ a0 k,LeO (spec_l2Name.f k a0) (spec_l2Name.f (k + 1) a0):=by
 intro a0 k
 obtain ⟨ih0,ih1⟩:=spec_l2Name.mono_l k
 unfold spec_l2Name.f
 repeat' with_reducible first|apply ih0|apply ih1|apply LeO.refl|apply LeO.none|apply LeO.ite|refine LeO.bind ?_ (fun _ => ?_)
theorem spec_l2Name.calls (k : Nat) (a0 : ByteArray) (r : Bool) (w : World) (h : spec_l2Name.f k a0 = some r) :
  Calls Try.prog 49 #[.string a0] w fun e w' => e = .returned (.bool r) ∧ Drawn0 w w':=by
 have H:=h;clear h;unfold spec_l2Name.f at H;have HC2:=am_ H;clear H;go_enter Try.func49,Try.ntmps49;go_upto_region 1 with (fail)
 go_cut [16] (fun v16 wc => ∃ (kq : Nat) (x16_1 : Bool),v16 = .bool x16_1 ∧ Aside0 (spec_l2Name.j0 kq a0 x16_1 = some r) ∧ Aside0 (kq ≤ k) ∧ Drawn0 w wc)
 case first =>
  have H:=HC2.out;clear HC2
  by_cases c3 : (a0.size : Int) < 1
  ·rw [if_pos c3] at H;have c3b0:=decide_eq_true c3;have c3b1 : decide (a0.size < 1) = true:=decide_eq_true (by omega);clear c3;(first|rw [c3b0]|(simp only [i64_w,i32_w];rw [c3b0])|skip);have H':=am_ H;clear H;go_wp2;go_meet
   case rel => exact ⟨_,(true),rs_,H',⟨by first|omega|exact Nat.le_refl _⟩,by repeat (first|exact Drawn0.refl _|apply Drawn0.step)⟩
  ·rw [if_neg c3] at H;have c3b0:=decide_eq_false c3;have c3b1 : decide (a0.size < 1) = false:=decide_eq_false (by omega);clear c3;(first|rw [c3b0]|(simp only [i64_w,i32_w];rw [c3b0])|skip)
   by_cases c4 : (a0.size : Int) > 40
   ·rw [if_pos c4] at H;have c4b0:=dg_ c4;have c4b1 : decide (40 < a0.size) = true:=decide_eq_true (by omega);clear c4;have H':=am_ H;clear H;go_wp2;go_meet
    case rel => exact ⟨_,(true),rs_,H',⟨by first|omega|exact Nat.le_refl _⟩,by repeat (first|exact Drawn0.refl _|apply Drawn0.step)⟩
   ·rw [if_neg c4] at H;have c4b0:=df_ c4;have c4b1 : decide (40 < a0.size) = false:=decide_eq_false (by omega);clear c4;replace H:=is_ H;obtain ⟨c5,H⟩:=H;have c5b0:=decide_eq_true c5;have c5b1 : decide (0 < a0.size) = true:=decide_eq_true (by omega);clear c5;replace H:=bs_ H;obtain ⟨t1001,A7,H⟩:=H;have H':=am_ H;clear H;have p6 : 0 ≤ (0 : Int):=(by omega);have q6 : 0 < a0.size:=(by have : (0 : Int) < (a0.size : Int):=od_;omega);have hx6 : ∀ h : 0 < a0.size,((a0[0]'h).toNat : Int) = bt a0 0:=bt_at a0 0;clear p6;have qi6 : (0 < (a0.size : Int)) = True:=eq_true (od_);replace q6:=eq_true q6;go_wp2_with (first|(go_at_call 87;(with_reducible refine (spec_l2Digit.calls (bt a0 0) t1001 _ A7.out).mono ?_);rintro e w' ⟨rfl,⟨nd,rfl⟩⟩));go_meet
    case rel => exact ⟨_,(t1001),rs_,H',⟨by first|omega|exact Nat.le_refl _⟩,by repeat (first|exact Drawn0.refl _|apply Drawn0.step)⟩
 case rest =>
  clear HC2;obtain ⟨kq,x16_1,rfl,HA,HJ1,⟨mc1,rfl⟩⟩:=hcut
  cases kq with
  | zero => exact absurd HA.out (by simp [spec_l2Name.j0])
  | succ kj1 =>
   have H:=HA.out;clear HA;simp only [spec_l2Name.j0] at H
   by_cases c8 : x16_1 = true
   ·subst c8;replace H:=it_ H;obtain rfl:=si_ H;go_wp2;go_ret;exact ⟨by first|rfl|(simp;done)|(simp [*];done),by repeat (first|exact Drawn0.refl _|apply Drawn0.step)⟩
   ·replace c8:=Bool.eq_false_iff.mpr c8;subst c8;replace H:=if_ H;have H':=am_ H;clear H;go_wp2
    go_loopg [3] kj1 (fun kq v3 w' => ∃ (x3_2 : Int),v3 = .int .i64 x3_2 ∧ Aside0 (spec_l2Name.l0 kq a0 x3_2 = some r) ∧ Aside0 (kq ≤ kj1) ∧ Drawn0 w w')
    case atStart => exact ⟨(0),rs_,H',⟨Nat.le_refl _⟩,by repeat (first|exact Drawn0.refl _|apply Drawn0.step)⟩
    case round =>
     clear H';(try clear c8);obtain ⟨x3_2,rfl,HA,HK2,⟨m2,rfl⟩⟩:=hrel
     cases gk with
     | zero => exact absurd HA.out (by simp [spec_l2Name.l0])
     | succ k2 =>
      have H:=HA.out;clear HA;simp only [spec_l2Name.l0] at H
      by_cases c9 : x3_2 < (a0.size : Int)
      ·rw [if_pos c9] at H;have c9b0:=decide_eq_true c9;clear c9;replace H:=is_ H;obtain ⟨c10,H⟩:=H;have c10b0:=decide_eq_true c10;clear c10;replace H:=bs_ H;obtain ⟨t1002,A12,H⟩:=H
       by_cases c13 : t1002 = true
       ·subst c13;replace H:=it_ H;have H':=am_ H;clear H;have p11 : 0 ≤ (x3_2 : Int):=od_;have q11 : x3_2 < (a0.size : Int):=od_;have hx11:=bt_at a0 x3_2;replace p11:=eq_true p11;replace q11:=eq_true q11;go_wp2_with (first|((with_reducible refine gate_callee (f:=88) rfl ?_);refine gl_ 26 Try.func88 #[.int .u8 (bt a0 x3_2)] ?_;(with_reducible refine (spec_l2Letter.calls (bt a0 x3_2) true _ A12.out).mono ?_);rintro e w' ⟨rfl,⟨nd,rfl⟩⟩;refine ⟨_,rfl,?_⟩));go_roundg k2
        case measure => have:=HJ1.out;have:=HK2.out;omega
        case rel => exact ⟨(wrap64 (x3_2 + 1)),rs_,H',⟨by have:=HJ1.out;have:=HK2.out;omega⟩,by repeat (first|exact Drawn0.refl _|apply Drawn0.step)⟩
       ·replace c13:=Bool.eq_false_iff.mpr c13;subst c13;replace H:=if_ H;replace H:=bs_ H;obtain ⟨t1003,A15,H⟩:=H
        by_cases c16 : t1003 = true
        ·subst c16;replace H:=it_ H;have H':=am_ H;clear H;have p11 : 0 ≤ (x3_2 : Int):=od_;have q11 : x3_2 < (a0.size : Int):=od_;have hx11:=bt_at a0 x3_2;replace p11:=eq_true p11;replace q11:=eq_true q11;go_wp2_with (first|((with_reducible refine gate_callee (f:=88) rfl ?_);refine gl_ 26 Try.func88 #[.int .u8 (bt a0 x3_2)] ?_;(with_reducible refine (spec_l2Letter.calls (bt a0 x3_2) false _ A12.out).mono ?_);rintro e w' ⟨rfl,⟨nd,rfl⟩⟩;refine ⟨_,rfl,?_⟩;have p14 : 0 ≤ (x3_2 : Int):=od_;have q14 : x3_2 < (a0.size : Int):=od_;have hx14:=bt_at a0 x3_2;replace p14:=eq_true p14;replace q14:=eq_true q14)|(go_at_call 87;(with_reducible refine (spec_l2Digit.calls (bt a0 x3_2) true _ A15.out).mono ?_);rintro e w' ⟨rfl,⟨nd,rfl⟩⟩));go_roundg k2
         case measure => have:=HJ1.out;have:=HK2.out;omega
         case rel => exact ⟨(wrap64 (x3_2 + 1)),rs_,H',⟨by have:=HJ1.out;have:=HK2.out;omega⟩,by repeat (first|exact Drawn0.refl _|apply Drawn0.step)⟩
        ·replace c16:=Bool.eq_false_iff.mpr c16;subst c16;replace H:=if_ H
         by_cases c18 : (bt a0 x3_2) = 95
         ·rw [if_pos c18] at H;have c18b0:=eb_ c18;have c18b1:=en_ c18;clear c18;have H':=am_ H;clear H;have p11 : 0 ≤ (x3_2 : Int):=od_;have q11 : x3_2 < (a0.size : Int):=od_;have hx11:=bt_at a0 x3_2;replace p11:=eq_true p11;replace q11:=eq_true q11;go_wp2_with (first|((with_reducible refine gate_callee (f:=88) rfl ?_);refine gl_ 26 Try.func88 #[.int .u8 (bt a0 x3_2)] ?_;(with_reducible refine (spec_l2Letter.calls (bt a0 x3_2) false _ A12.out).mono ?_);rintro e w' ⟨rfl,⟨nd,rfl⟩⟩;refine ⟨_,rfl,?_⟩;have p14 : 0 ≤ (x3_2 : Int):=od_;have q14 : x3_2 < (a0.size : Int):=od_;have hx14:=bt_at a0 x3_2;replace p14:=eq_true p14;replace q14:=eq_true q14)|(go_at_call 87;(with_reducible refine (spec_l2Digit.calls (bt a0 x3_2) false _ A15.out).mono ?_);rintro e w' ⟨rfl,⟨nd,rfl⟩⟩;have p17 : 0 ≤ (x3_2 : Int):=od_;have q17 : x3_2 < (a0.size : Int):=od_;have hx17:=bt_at a0 x3_2;replace p17:=eq_true p17;replace q17:=eq_true q17));go_roundg k2
          case measure => have:=HJ1.out;have:=HK2.out;omega
          case rel => exact ⟨(wrap64 (x3_2 + 1)),rs_,H',⟨by have:=HJ1.out;have:=HK2.out;omega⟩,by repeat (first|exact Drawn0.refl _|apply Drawn0.step)⟩
         ·rw [if_neg c18] at H;have c18b0:=nb_ c18;have c18b1:=nn_ c18;obtain rfl:=si_ H;have p11 : 0 ≤ (x3_2 : Int):=od_;have q11 : x3_2 < (a0.size : Int):=od_;have hx11:=bt_at a0 x3_2;replace p11:=eq_true p11;replace q11:=eq_true q11;go_wp2_with (first|((with_reducible refine gate_callee (f:=88) rfl ?_);refine gl_ 26 Try.func88 #[.int .u8 (bt a0 x3_2)] ?_;(with_reducible refine (spec_l2Letter.calls (bt a0 x3_2) false _ A12.out).mono ?_);rintro e w' ⟨rfl,⟨nd,rfl⟩⟩;refine ⟨_,rfl,?_⟩;have p14 : 0 ≤ (x3_2 : Int):=od_;have q14 : x3_2 < (a0.size : Int):=od_;have hx14:=bt_at a0 x3_2;replace p14:=eq_true p14;replace q14:=eq_true q14)|(go_at_call 87;(with_reducible refine (spec_l2Digit.calls (bt a0 x3_2) false _ A15.out).mono ?_);rintro e w' ⟨rfl,⟨nd,rfl⟩⟩;have p17 : 0 ≤ (x3_2 : Int):=od_;have q17 : x3_2 < (a0.size : Int):=od_;have hx17:=bt_at a0 x3_2;replace p17:=eq_true p17;replace q17:=eq_true q17));go_ret;exact ⟨by first|rfl|(simp;done)|(simp [*];done),by repeat (first|exact Drawn0.refl _|apply Drawn0.step)⟩
      ·rw [if_neg c9] at H;have c9b0:=decide_eq_false c9;clear c9;obtain rfl:=si_ H;go_wp2;go_ret;exact ⟨by first|rfl|(simp;done)|(simp [*];done),by repeat (first|exact Drawn0.refl _|apply Drawn0.step)⟩
def spec_l2Printed.l0 : Nat → ByteArray → Int → Option (Bool)
 | 0,_,_ => none
 | k + 1,x0,x3 => if x3 < (x0.size : Int) then (if 0 ≤ x3 then (if (bt x0 x3) < 32 then (some false) else (if (bt x0 x3) > 126 then (some false) else (spec_l2Printed.l0 k x0 (wrap64 (x3 + 1))))) else (none)) else (some true)
def spec_l2Printed.f (k : Nat) (a0 : ByteArray) : Option (Bool):=spec_l2Printed.l0 k a0 0
theorem spec_l2Printed.mono_l : ∀ k,(∀ y0 y1,LeO (spec_l2Printed.l0 k y0 y1) (spec_l2Printed.l0 (k + 1) y0 y1))
 | 0 => fun _ _ r h => by simp [spec_l2Printed.l0] at h
 | k + 1 => by
  have ih0:=spec_l2Printed.mono_l k
  ·intro y0 y1
   unfold spec_l2Printed.l0
   repeat' with_reducible first|apply ih0|apply LeO.refl|apply LeO.none|apply LeO.ite|refine LeO.bind ?_ (fun _ => ?_)
theorem spec_l2Printed.mono : ∀ a0 k,LeO (spec_l2Printed.f k a0) (spec_l2Printed.f (k + 1) a0):=by
 intro a0 k
 have ih0:=spec_l2Printed.mono_l k
 unfold spec_l2Printed.f
 repeat' with_reducible first|apply ih0|apply LeO.refl|apply LeO.none|apply LeO.ite|refine LeO.bind ?_ (fun _ => ?_)
theorem spec_l2Printed.calls (k : Nat) (a0 : ByteArray) (r : Bool) (w : World) (h : spec_l2Printed.f k a0 = some r) :
  Calls Try.prog 89 #[.string a0] w fun e w' => e = .returned (.bool r) ∧ Drawn0 w w':=by
 have H:=h;clear h;unfold spec_l2Printed.f at H;have H':=am_ H;clear H;go_enter Try.func89,Try.ntmps89;go_wp2
 go_loopg [3] k (fun kq v3 w' => ∃ (x3_1 : Int),v3 = .int .i64 x3_1 ∧ Aside0 (spec_l2Printed.l0 kq a0 x3_1 = some r) ∧ Aside0 (kq ≤ k) ∧ Drawn0 w w')
 case atStart => exact ⟨(0),rs_,H',⟨Nat.le_refl _⟩,by repeat (first|exact Drawn0.refl _|apply Drawn0.step)⟩
 case round =>
  clear H';obtain ⟨x3_1,rfl,HA,HK1,⟨m1,rfl⟩⟩:=hrel
  cases gk with
  | zero => exact absurd HA.out (by simp [spec_l2Printed.l0])
  | succ k1 =>
   have H:=HA.out;clear HA;simp only [spec_l2Printed.l0] at H
   by_cases c2 : x3_1 < (a0.size : Int)
   ·rw [if_pos c2] at H;have c2b0:=decide_eq_true c2;clear c2;replace H:=is_ H;obtain ⟨c3,H⟩:=H;have c3b0:=decide_eq_true c3;clear c3
    by_cases c5 : (bt a0 x3_1) < 32
    ·rw [if_pos c5] at H;have c5b0:=decide_eq_true c5;clear c5;obtain rfl:=si_ H;have p4 : 0 ≤ (x3_1 : Int):=od_;have q4 : x3_1 < (a0.size : Int):=od_;have hx4:=bt_at a0 x3_1;replace p4:=eq_true p4;replace q4:=eq_true q4;go_wp2;go_ret;exact ⟨by first|rfl|(simp;done)|(simp [*];done),by repeat (first|exact Drawn0.refl _|apply Drawn0.step)⟩
    ·rw [if_neg c5] at H;have c5b0:=decide_eq_false c5;clear c5
     by_cases c7 : (bt a0 x3_1) > 126
     ·rw [if_pos c7] at H;have c7b0:=dg_ c7;clear c7;obtain rfl:=si_ H;have p4 : 0 ≤ (x3_1 : Int):=od_;have q4 : x3_1 < (a0.size : Int):=od_;have hx4:=bt_at a0 x3_1;replace p4:=eq_true p4;replace q4:=eq_true q4;have p6 : 0 ≤ (x3_1 : Int):=od_;have q6 : x3_1 < (a0.size : Int):=od_;have hx6:=bt_at a0 x3_1;replace p6:=eq_true p6;replace q6:=eq_true q6;go_wp2;go_ret;exact ⟨by first|rfl|(simp;done)|(simp [*];done),by repeat (first|exact Drawn0.refl _|apply Drawn0.step)⟩
     ·rw [if_neg c7] at H;have c7b0:=df_ c7;clear c7;have H':=am_ H;clear H;have p4 : 0 ≤ (x3_1 : Int):=od_;have q4 : x3_1 < (a0.size : Int):=od_;have hx4:=bt_at a0 x3_1;replace p4:=eq_true p4;replace q4:=eq_true q4;have p6 : 0 ≤ (x3_1 : Int):=od_;have q6 : x3_1 < (a0.size : Int):=od_;have hx6:=bt_at a0 x3_1;replace p6:=eq_true p6;replace q6:=eq_true q6;go_wp2;go_roundg k1
      case measure => have:=HK1.out;omega
      case rel => exact ⟨(wrap64 (x3_1 + 1)),rs_,H',⟨by have:=HK1.out;omega⟩,by repeat (first|exact Drawn0.refl _|apply Drawn0.step)⟩
   ·rw [if_neg c2] at H;have c2b0:=decide_eq_false c2;clear c2;obtain rfl:=si_ H;go_wp2;go_ret;exact ⟨by first|rfl|(simp;done)|(simp [*];done),by repeat (first|exact Drawn0.refl _|apply Drawn0.step)⟩
def spec_l2Value.f (k : Nat) (a0 : ByteArray) : Option (Bool):=if (a0.size : Int) ≥ 1 then (if (a0.size : Int) ≤ 100 then ((spec_l2Printed.f k a0).bind fun t1001 => (some t1001)) else (some false)) else (some false)
theorem spec_l2Value.mono : ∀ a0 k,LeO (spec_l2Value.f k a0) (spec_l2Value.f (k + 1) a0):=by
 intro a0 k
 unfold spec_l2Value.f
 repeat' with_reducible first|apply spec_l2Printed.mono|apply LeO.refl|apply LeO.none|apply LeO.ite|refine LeO.bind ?_ (fun _ => ?_)
theorem spec_l2Value.calls (k : Nat) (a0 : ByteArray) (r : Bool) (w : World) (h : spec_l2Value.f k a0 = some r) :
  Calls Try.prog 50 #[.string a0] w fun e w' => e = .returned (.bool r) ∧ Drawn0 w w':=by
 have H:=h;clear h;unfold spec_l2Value.f at H
 by_cases c2 : (a0.size : Int) ≥ 1
 ·rw [if_pos c2] at H;have c2b0 : decide (1 ≤ (a0.size : Int)) = true:=decide_eq_true c2;have c2b1 : decide (1 ≤ a0.size) = true:=decide_eq_true (by omega);clear c2
  by_cases c3 : (a0.size : Int) ≤ 100
  ·rw [if_pos c3] at H;have c3b0:=decide_eq_true c3;have c3b1 : decide (a0.size ≤ 100) = true:=decide_eq_true (by omega);clear c3;replace H:=bs_ H;obtain ⟨t1001,A4,H⟩:=H;obtain rfl:=si_ H;go_enter Try.func50,Try.ntmps50;go_wp2_with (first|(go_at_call 89;(with_reducible refine (spec_l2Printed.calls k a0 t1001 _ A4.out).mono ?_);rintro e w' ⟨rfl,⟨nd,rfl⟩⟩));go_ret;exact ⟨by first|rfl|(simp;done)|(simp [*];done),by repeat (first|exact Drawn0.refl _|apply Drawn0.step)⟩
  ·rw [if_neg c3] at H;have c3b0:=decide_eq_false c3;have c3b1 : decide (a0.size ≤ 100) = false:=decide_eq_false (by omega);clear c3;obtain rfl:=si_ H;go_enter Try.func50,Try.ntmps50;go_wp2;go_ret;exact ⟨by first|rfl|(simp;done)|(simp [*];done),by repeat (first|exact Drawn0.refl _|apply Drawn0.step)⟩
 ·rw [if_neg c2] at H;have c2b0 : decide (1 ≤ (a0.size : Int)) = false:=decide_eq_false c2;have c2b1 : decide (1 ≤ a0.size) = false:=decide_eq_false (by omega);clear c2;obtain rfl:=si_ H;go_enter Try.func50,Try.ntmps50;go_wp2;go_ret;exact ⟨by first|rfl|(simp;done)|(simp [*];done),by repeat (first|exact Drawn0.refl _|apply Drawn0.step)⟩
def spec_l2CmpNum.f (a0 : Int) (a1 : Int) : Option (Int):=if a0 < a1 then (some (-1)) else (if a0 > a1 then (some 1) else (some 0))
theorem spec_l2CmpNum.calls (a0 : Int) (a1 : Int) (r : Int) (w : World) (h : spec_l2CmpNum.f a0 a1 = some r) :
  Calls Try.prog 90 #[.int .i64 a0,.int .i64 a1] w fun e w' => e = .returned (.int .i64 r) ∧ Drawn0 w w':=by
 have H:=h;clear h;unfold spec_l2CmpNum.f at H
 by_cases c3 : a0 < a1
 ·rw [if_pos c3] at H;have c3b0:=decide_eq_true c3;clear c3;obtain rfl:=si_ H;go_enter Try.func90,Try.ntmps90;go_wp2;go_ret;exact ⟨by first|rfl|(simp;done)|(simp [*];done),by repeat (first|exact Drawn0.refl _|apply Drawn0.step)⟩
 ·rw [if_neg c3] at H;have c3b0:=decide_eq_false c3;clear c3
  by_cases c4 : a0 > a1
  ·rw [if_pos c4] at H;have c4b0:=dg_ c4;clear c4;obtain rfl:=si_ H;go_enter Try.func90,Try.ntmps90;go_wp2;go_ret;exact ⟨by first|rfl|(simp;done)|(simp [*];done),by repeat (first|exact Drawn0.refl _|apply Drawn0.step)⟩
  ·rw [if_neg c4] at H;have c4b0:=df_ c4;clear c4;obtain rfl:=si_ H;go_enter Try.func90,Try.ntmps90;go_wp2;go_ret;exact ⟨by first|rfl|(simp;done)|(simp [*];done),by repeat (first|exact Drawn0.refl _|apply Drawn0.step)⟩
mutual
def spec_l2CmpText.l0 : Nat → ByteArray → ByteArray → Int → Option (Int)
 | 0,_,_,_ => none
 | k + 1,x0,x1,x5 => if x5 < (x0.size : Int) then (spec_l2CmpText.j1 k x0 x1 x5 (decide (x5 < (x1.size : Int)))) else (spec_l2CmpText.j1 k x0 x1 x5 false)
def spec_l2CmpText.j1 : Nat → ByteArray → ByteArray → Int → Bool → Option (Int)
 | 0,_,_,_,_ => none
 | k + 1,x0,x1,x5,x15 => if x15 = true then (if 0 ≤ x5 then (if x5 < (x0.size : Int) then (if x5 < (x1.size : Int) then (if (bt x0 x5) = (bt x1 x5) then (spec_l2CmpText.l0 k x0 x1 (wrap64 (x5 + 1))) else ((spec_l2CmpNum.f (wrap64 (bt x0 x5)) (wrap64 (bt x1 x5))).bind fun t1001 => (some t1001))) else (none)) else (none)) else (none)) else ((spec_l2CmpNum.f (x0.size : Int) (x1.size : Int)).bind fun t1002 => (some t1002))
end
def spec_l2CmpText.f (k : Nat) (a0 : ByteArray) (a1 : ByteArray) : Option (Int):=spec_l2CmpText.l0 k a0 a1 0
theorem spec_l2CmpText.mono_l : ∀ k,(∀ y0 y1 y2,LeO (spec_l2CmpText.l0 k y0 y1 y2) (spec_l2CmpText.l0 (k + 1) y0 y1 y2)) ∧ (∀ y0 y1 y2 y3,LeO (spec_l2CmpText.j1 k y0 y1 y2 y3) (spec_l2CmpText.j1 (k + 1) y0 y1 y2 y3))
 | 0 => ⟨fun _ _ _ r h => by simp [spec_l2CmpText.l0] at h,fun _ _ _ _ r h => by simp [spec_l2CmpText.j1] at h⟩
 | k + 1 => by
  obtain ⟨ih0,ih1⟩:=spec_l2CmpText.mono_l k
  refine ⟨?_,?_⟩
  ·intro y0 y1 y2
   unfold spec_l2CmpText.l0
   repeat' with_reducible first|apply ih0|apply ih1|apply LeO.refl|apply LeO.none|apply LeO.ite|refine LeO.bind ?_ (fun _ => ?_)
  ·intro y0 y1 y2 y3
   unfold spec_l2CmpText.j1
   repeat' with_reducible first|apply ih0|apply ih1|apply LeO.refl|apply LeO.none|apply LeO.ite|refine LeO.bind ?_ (fun _ => ?_)
theorem spec_l2CmpText.mono : ∀ a0 a1 k,LeO (spec_l2CmpText.f k a0 a1) (spec_l2CmpText.f (k + 1) a0 a1):=by
 intro a0 a1 k
 obtain ⟨ih0,ih1⟩:=spec_l2CmpText.mono_l k
 unfold spec_l2CmpText.f
 repeat' with_reducible first|apply ih0|apply ih1|apply LeO.refl|apply LeO.none|apply LeO.ite|refine LeO.bind ?_ (fun _ => ?_)
theorem spec_l2CmpText.calls (k : Nat) (a0 : ByteArray) (a1 : ByteArray) (r : Int) (w : World) (h : spec_l2CmpText.f k a0 a1 = some r) :
  Calls Try.prog 51 #[.string a0,.string a1] w fun e w' => e = .returned (.int .i64 r) ∧ Drawn0 w w':=by
 have H:=h;clear h;unfold spec_l2CmpText.f at H;have H':=am_ H;clear H;go_enter Try.func51,Try.ntmps51;go_wp2
 go_loopg [5] k (fun kq v5 w' => ∃ (x5_1 : Int),v5 = .int .i64 x5_1 ∧ Aside0 (spec_l2CmpText.l0 kq a0 a1 x5_1 = some r) ∧ Aside0 (kq ≤ k) ∧ Drawn0 w w')
 case atStart => exact ⟨(0),rs_,H',⟨Nat.le_refl _⟩,by repeat (first|exact Drawn0.refl _|apply Drawn0.step)⟩
 case round =>
  clear H';obtain ⟨x5_1,rfl,HA,HK1,⟨m1,rfl⟩⟩:=hrel
  cases gk with
  | zero => exact absurd HA.out (by simp [spec_l2CmpText.l0])
  | succ k1 =>
   have H:=HA.out;clear HA;simp only [spec_l2CmpText.l0] at H;have HC3:=am_ H;clear H;go_upto_region 2 with (fail)
   go_cut [15] (fun v15 wc => ∃ (kq : Nat) (x15_2 : Bool),v15 = .bool x15_2 ∧ Aside0 (spec_l2CmpText.j1 kq a0 a1 x5_1 x15_2 = some r) ∧ Aside0 (kq ≤ k1) ∧ Drawn0 w wc)
   case first =>
    have H:=HC3.out;clear HC3
    by_cases c4 : x5_1 < (a0.size : Int)
    ·rw [if_pos c4] at H;have c4b0:=decide_eq_true c4;clear c4;(first|rw [c4b0]|(simp only [i64_w,i32_w];rw [c4b0])|skip);have H':=am_ H;clear H;go_wp2;go_meet
     case rel => exact ⟨_,(decide (x5_1 < (a1.size : Int))),rs_,H',⟨by have:=HK1.out;first|omega|exact Nat.le_refl _⟩,by repeat (first|exact Drawn0.refl _|apply Drawn0.step)⟩
    ·rw [if_neg c4] at H;have c4b0:=decide_eq_false c4;clear c4;(first|rw [c4b0]|(simp only [i64_w,i32_w];rw [c4b0])|skip);have H':=am_ H;clear H;go_wp2;go_meet
     case rel => exact ⟨_,(false),rs_,H',⟨by have:=HK1.out;first|omega|exact Nat.le_refl _⟩,by repeat (first|exact Drawn0.refl _|apply Drawn0.step)⟩
   case rest =>
    clear HC3;obtain ⟨kq,x15_2,rfl,HA,HJ2,⟨mc2,rfl⟩⟩:=hcut
    cases kq with
    | zero => exact absurd HA.out (by simp [spec_l2CmpText.j1])
    | succ kj2 =>
     have H:=HA.out;clear HA;simp only [spec_l2CmpText.j1] at H
     by_cases c5 : x15_2 = true
     ·subst c5;replace H:=it_ H;replace H:=is_ H;obtain ⟨c6,H⟩:=H;have c6b0:=decide_eq_true c6;clear c6;replace H:=is_ H;obtain ⟨c7,H⟩:=H;have c7b0:=decide_eq_true c7;clear c7;replace H:=is_ H;obtain ⟨c9,H⟩:=H;have c9b0:=decide_eq_true c9;clear c9
      by_cases c11 : (bt a0 x5_1) = (bt a1 x5_1)
      ·rw [if_pos c11] at H;have c11b0:=eb_ c11;have c11b1:=en_ c11;clear c11;have H':=am_ H;clear H;have p8 : 0 ≤ (x5_1 : Int):=od_;have q8 : x5_1 < (a0.size : Int):=od_;have hx8:=bt_at a0 x5_1;replace p8:=eq_true p8;replace q8:=eq_true q8;have p10 : 0 ≤ (x5_1 : Int):=od_;have q10 : x5_1 < (a1.size : Int):=od_;have hx10:=bt_at a1 x5_1;replace p10:=eq_true p10;replace q10:=eq_true q10;go_wp2;(repeat (go_quiet (fail);try go_wp2));go_roundg kj2
       case measure => have:=HK1.out;have:=HJ2.out;omega
       case rel => exact ⟨(wrap64 (x5_1 + 1)),rs_,H',⟨by have:=HK1.out;have:=HJ2.out;omega⟩,by repeat (first|exact Drawn0.refl _|apply Drawn0.step)⟩
      ·rw [if_neg c11] at H;have c11b0:=nb_ c11;have c11b1:=nn_ c11;replace H:=bs_ H;obtain ⟨t1001,A14,H⟩:=H;obtain rfl:=si_ H;have p8 : 0 ≤ (x5_1 : Int):=od_;have q8 : x5_1 < (a0.size : Int):=od_;have hx8:=bt_at a0 x5_1;replace p8:=eq_true p8;replace q8:=eq_true q8;have p10 : 0 ≤ (x5_1 : Int):=od_;have q10 : x5_1 < (a1.size : Int):=od_;have hx10:=bt_at a1 x5_1;replace p10:=eq_true p10;replace q10:=eq_true q10;have p12 : 0 ≤ (x5_1 : Int):=od_;have q12 : x5_1 < (a0.size : Int):=od_;have hx12:=bt_at a0 x5_1;replace p12:=eq_true p12;replace q12:=eq_true q12;have p13 : 0 ≤ (x5_1 : Int):=od_;have q13 : x5_1 < (a1.size : Int):=od_;have hx13:=bt_at a1 x5_1;replace p13:=eq_true p13;replace q13:=eq_true q13;go_wp2_with (fail);(repeat (go_quiet (first|(go_at_call 90;(with_reducible refine (spec_l2CmpNum.calls (wrap64 (bt a0 x5_1)) (wrap64 (bt a1 x5_1)) t1001 _ A14.out).mono ?_);rintro e w' ⟨rfl,⟨nd,rfl⟩⟩;(try exact dd_)));try go_wp2));go_ret;exact ⟨by first|rfl|(simp;done)|(simp [*];done),by repeat (first|exact Drawn0.refl _|apply Drawn0.step)⟩
     ·replace c5:=Bool.eq_false_iff.mpr c5;subst c5;replace H:=if_ H;replace H:=bs_ H;obtain ⟨t1002,A15,H⟩:=H;obtain rfl:=si_ H;go_wp2_with (first|(go_at_call 90;(with_reducible refine (spec_l2CmpNum.calls (a0.size : Int) (a1.size : Int) t1002 _ A15.out).mono ?_);rintro e w' ⟨rfl,⟨nd,rfl⟩⟩;(try exact dd_)));go_ret;exact ⟨by first|rfl|(simp;done)|(simp [*];done),by repeat (first|exact Drawn0.refl _|apply Drawn0.step)⟩
def spec_GoodLabels.l0 : Nat → List (S56) → List (S56) → Int → Int → Option (Bool)
 | 0,_,_,_,_ => none
 | k + 1,x0,x8,x9,x10 => if x10 < x9 then (if 0 ≤ x10 then (if x10 < (x8.length : Int) then ((spec_l2Name.f k ((rd_T56 x8 x10).f0)).bind fun t1003 => (if t1003 = true then ((spec_l2Value.f k ((rd_T56 x8 x10).f1)).bind fun t1004 => (if t1004 = true then (if x10 > 0 then (if 0 ≤ (wrap64 (x10 - 1)) then (if (wrap64 (x10 - 1)) < (x0.length : Int) then ((spec_l2CmpText.f k ((rd_T56 x0 (wrap64 (x10 - 1))).f0) ((rd_T56 x8 x10).f0)).bind fun t1006 => (if t1006 ≥ 0 then (some false) else (spec_GoodLabels.l0 k x0 x8 x9 (wrap64 (x10 + 1))))) else (none)) else (none)) else (spec_GoodLabels.l0 k x0 x8 x9 (wrap64 (x10 + 1)))) else (some false))) else (some false))) else (none)) else (none)) else (some true)
def spec_GoodLabels.f (k : Nat) (l0 : List (S56)) : Option (Bool):=if (l0.length : Int) > 20 then (some false) else (spec_GoodLabels.l0 k l0 l0 (l0.length : Int) 0)
theorem spec_GoodLabels.mono_l : ∀ k,(∀ y0 y1 y2 y3,LeO (spec_GoodLabels.l0 k y0 y1 y2 y3) (spec_GoodLabels.l0 (k + 1) y0 y1 y2 y3))
 | 0 => fun _ _ _ _ r h => by simp [spec_GoodLabels.l0] at h
 | k + 1 => by
  have ih0:=spec_GoodLabels.mono_l k
  ·intro y0 y1 y2 y3
   unfold spec_GoodLabels.l0
   repeat' with_reducible first|apply ih0|apply spec_l2CmpText.mono|apply spec_l2Name.mono|apply spec_l2Value.mono|apply LeO.refl|apply LeO.none|apply LeO.ite|refine LeO.bind ?_ (fun _ => ?_)
theorem spec_GoodLabels.mono : ∀ a0 k,LeO (spec_GoodLabels.f k a0) (spec_GoodLabels.f (k + 1) a0):=by
 intro a0 k
 have ih0:=spec_GoodLabels.mono_l k
 unfold spec_GoodLabels.f
 repeat' with_reducible first|apply ih0|apply spec_l2CmpText.mono|apply spec_l2Name.mono|apply spec_l2Value.mono|apply LeO.refl|apply LeO.none|apply LeO.ite|refine LeO.bind ?_ (fun _ => ?_)
theorem spec_GoodLabels.calls (k : Nat) (A0 : Option Addr) (c0 : Nat) (l0 : List (S56)) (r : Bool) (w : World) (hr0 : Kd.C k56 w A0 l0.length l0) (hc0 : l0.length ≤ c0) (h : spec_GoodLabels.f k l0 = some r) :
  Calls Try.prog 26 #[.slice A0 l0.length c0] w fun e w' => e = .returned (.bool r) ∧ Below w.heap.size w w':=by
 have hu56:=Try.underlying56;have HR0:=am_ hr0;have HC0:=am_ hc0;clear hr0 hc0;have HB:=am_ (Below.refl w.heap.size w);have H:=h;clear h;unfold spec_GoodLabels.f at H
 by_cases c2 : (l0.length : Int) > 20
 ·rw [if_pos c2] at H;have c2b0:=dg_ c2;have c2b1 : decide (20 < l0.length) = true:=decide_eq_true (by omega);clear c2;obtain rfl:=si_ H;go_enter Try.func26,Try.ntmps26;go_wp2;go_ret;exact ⟨rf_,bl_⟩
 ·rw [if_neg c2] at H;have c2b0:=df_ c2;have c2b1 : decide (20 < l0.length) = false:=decide_eq_false (by omega);clear c2;have H':=am_ H;clear H;go_enter Try.func26,Try.ntmps26;go_wp2
  go_loopg [10] k (fun kq v10 w' => ∃ (x10_1 : Int),v10 = .int .i64 x10_1 ∧ Aside0 (spec_GoodLabels.l0 kq l0 l0 (l0.length : Int) x10_1 = some r) ∧ Aside0 (kq ≤ k) ∧ Aside0 (Below w.heap.size w w'))
  case atStart => exact ⟨(0),rs_,H',⟨Nat.le_refl _⟩,⟨bl_⟩⟩
  case round =>
   clear H';(try clear c2);(try clear c2b0);(try clear c2b1);obtain ⟨x10_1,rfl,HA,HK1,HB⟩:=hrel
   cases gk with
   | zero => exact absurd HA.out (by simp [spec_GoodLabels.l0])
   | succ k1 =>
    have H:=HA.out;clear HA;simp only [spec_GoodLabels.l0] at H
    by_cases c3 : x10_1 < (l0.length : Int)
    ·rw [if_pos c3] at H;have c3b0:=decide_eq_true c3;clear c3;replace H:=is_ H;obtain ⟨c4,H⟩:=H;have c4b0:=decide_eq_true c4;clear c4;replace H:=is_ H;obtain ⟨c5,H⟩:=H;have c5b0:=decide_eq_true c5;clear c5;replace H:=bs_ H;obtain ⟨t1003,A6,H⟩:=H
     by_cases c7 : t1003 = true
     ·subst c7;replace H:=it_ H;replace H:=bs_ H;obtain ⟨t1004,A8,H⟩:=H
      by_cases c9 : t1004 = true
      ·subst c9;replace H:=it_ H
       by_cases c10 : x10_1 > 0
       ·rw [if_pos c10] at H;have c10b0:=dg_ c10;clear c10;obtain ⟨ji11,hji11⟩ : ∃ j_ : Int,(wrap64 (x10_1 - 1)) = j_:=⟨_,rfl⟩;replace H : (if 0 ≤ (ji11) then (if (ji11) < (l0.length : Int) then ((spec_l2CmpText.f k1 ((rd_T56 l0 (ji11)).f0) ((rd_T56 l0 x10_1).f0)).bind fun t1006 => (if t1006 ≥ 0 then (some false) else (spec_GoodLabels.l0 k1 l0 l0 (l0.length : Int) (wrap64 (x10_1 + 1))))) else (none)) else (none)) = some r:=by first|(rw [hji11] at H;exact H)|(simp only [hji11] at H ⊢;exact H)
        (try rw [hji11] at A6);(try rw [hji11] at A8);have hji11w : (IntKind.i64.wrap (x10_1 - 1)) = ji11:=(i64_w _).trans hji11;replace H:=is_ H;obtain ⟨c12,H⟩:=H;have c12b0:=decide_eq_true c12;clear c12;replace H:=is_ H;obtain ⟨c13,H⟩:=H;have c13b0:=decide_eq_true c13;clear c13;replace H:=bs_ H;obtain ⟨t1006,A14,H⟩:=H
        by_cases c15 : t1006 ≥ 0
        ·rw [if_pos c15] at H;have c15b0 : decide (0 ≤ t1006) = true:=decide_eq_true c15;clear c15;obtain rfl:=si_ H;have p1001 : 0 ≤ (x10_1 : Int):=od_;have q1001 : x10_1 < (l0.length : Int):=od_;obtain ⟨ad1001,e1001,hx1001_0,hx1001_1⟩:=at_T56 HR0.out x10_1 p1001 q1001
         cases e1001
         replace hx1001_0:=kp_ HB hx1001_0;replace hx1001_1:=kp_ HB hx1001_1;replace p1001:=eq_true p1001;replace q1001:=eq_true q1001;go_wp2_with (first|((with_reducible refine gate_dst (N:=4) rfl ?_);refine bx_ 4 #[.string (⟨#[]⟩ : ByteArray),.string (⟨#[]⟩ : ByteArray)] 56 ?_;intro gb1002 hg w16 hbox hb;have BK1002:=am_ (hbox);have GW1002:=am_ (gs_ hg : w.heap.size ≤ gb1002);replace HB:=am_ (below_step bl_ hb);have GE1002:=GW1002;clear hb hbox hg;have hz17:=bk2_ BK1002));(repeat (go_quiet (first|(go_at_call 49;(with_reducible refine (spec_l2Name.calls k1 ((rd_T56 l0 x10_1).f0) true _ A6.out).mono ?_);rintro e w' ⟨rfl,⟨nd,rfl⟩⟩;(try exact dd_))|(go_at_call 50;(with_reducible refine (spec_l2Value.calls k1 ((rd_T56 l0 x10_1).f1) true _ A8.out).mono ?_);rintro e w' ⟨rfl,⟨nd,rfl⟩⟩;(try exact dd_);have p1005 : 0 ≤ ((ji11) : Int):=od_;have q1005 : (ji11) < (l0.length : Int):=od_;obtain ⟨ad1005,e1005,hx1005_0,hx1005_1⟩:=at_T56 HR0.out (ji11) p1005 q1005;obtain rfl : ad1001 = ad1005:=(by injection e1005);have hn1005_0 : ad1001.block ≠ gb1002:=hb_ hx1005_0 GW1002;have hn1005_1 : ad1001.block ≠ gb1002:=hb_ hx1005_0 GW1002;replace hx1005_0:=kp_ HB hx1005_0;replace hx1005_1:=kp_ HB hx1005_1;replace hx1005_0:=cf_ gb1002 0 hn1005_0 (.string ((rd_T56 l0 x10_1).f0)) hx1005_0;replace hx1005_1:=cf_ gb1002 0 hn1005_0 (.string ((rd_T56 l0 x10_1).f0)) hx1005_1;replace hx1005_0:=cf_ gb1002 1 hn1005_1 (.string ((rd_T56 l0 x10_1).f1)) hx1005_0;replace hx1005_1:=cf_ gb1002 1 hn1005_1 (.string ((rd_T56 l0 x10_1).f1)) hx1005_1;(try have hy1005_0:=fun (n_ : Nat) => (show ((((w16.drewN n_).setCell ⟨gb1002,0,none⟩ (.string ((rd_T56 l0 x10_1).f0))).setCell ⟨gb1002,1,none⟩ (.string ((rd_T56 l0 x10_1).f1)))).cell? _ = some _ from hx1005_0));(try have hy1005_1:=fun (n_ : Nat) => (show ((((w16.drewN n_).setCell ⟨gb1002,0,none⟩ (.string ((rd_T56 l0 x10_1).f0))).setCell ⟨gb1002,1,none⟩ (.string ((rd_T56 l0 x10_1).f1)))).cell? _ = some _ from hx1005_1));clear hn1005_0;clear hn1005_1;replace p1005:=eq_true p1005;replace q1005:=eq_true q1005)|(go_at_call 51;(with_reducible refine (spec_l2CmpText.calls k1 ((rd_T56 l0 (ji11)).f0) ((rd_T56 l0 x10_1).f0) t1006 _ A14.out).mono ?_);rintro e w' ⟨rfl,⟨nd,rfl⟩⟩;(try exact dd_)));try go_wp2));go_ret;exact ⟨by first|rfl|(simp [errW_none,errW_some] <;> rfl)|(simp only [← hji11];first|rfl|(simp [errW_none,errW_some] <;> rfl))|(simp [*,errW_none,errW_some] <;> rfl)|(simp [*,Go.Proofs.Ytfdbbpnmnogddaa.Gt.nil_bne];done),bg_⟩
        ·rw [if_neg c15] at H;have c15b0 : decide (0 ≤ t1006) = false:=decide_eq_false c15;clear c15;have H':=am_ H;clear H;have p1001 : 0 ≤ (x10_1 : Int):=od_;have q1001 : x10_1 < (l0.length : Int):=od_;obtain ⟨ad1001,e1001,hx1001_0,hx1001_1⟩:=at_T56 HR0.out x10_1 p1001 q1001
         cases e1001
         replace hx1001_0:=kp_ HB hx1001_0;replace hx1001_1:=kp_ HB hx1001_1;replace p1001:=eq_true p1001;replace q1001:=eq_true q1001;go_wp2_with (first|((with_reducible refine gate_dst (N:=4) rfl ?_);refine bx_ 4 #[.string (⟨#[]⟩ : ByteArray),.string (⟨#[]⟩ : ByteArray)] 56 ?_;intro gb1002 hg w18 hbox hb;have BK1002:=am_ (hbox);have GW1002:=am_ (gs_ hg : w.heap.size ≤ gb1002);replace HB:=am_ (below_step bl_ hb);have GE1002:=GW1002;clear hb hbox hg;have hz19:=bk2_ BK1002));(repeat (go_quiet (first|(go_at_call 49;(with_reducible refine (spec_l2Name.calls k1 ((rd_T56 l0 x10_1).f0) true _ A6.out).mono ?_);rintro e w' ⟨rfl,⟨nd,rfl⟩⟩;(try exact dd_))|(go_at_call 50;(with_reducible refine (spec_l2Value.calls k1 ((rd_T56 l0 x10_1).f1) true _ A8.out).mono ?_);rintro e w' ⟨rfl,⟨nd,rfl⟩⟩;(try exact dd_);have p1005 : 0 ≤ ((ji11) : Int):=od_;have q1005 : (ji11) < (l0.length : Int):=od_;obtain ⟨ad1005,e1005,hx1005_0,hx1005_1⟩:=at_T56 HR0.out (ji11) p1005 q1005;obtain rfl : ad1001 = ad1005:=(by injection e1005);have hn1005_0 : ad1001.block ≠ gb1002:=hb_ hx1005_0 GW1002;have hn1005_1 : ad1001.block ≠ gb1002:=hb_ hx1005_0 GW1002;replace hx1005_0:=kp_ HB hx1005_0;replace hx1005_1:=kp_ HB hx1005_1;replace hx1005_0:=cf_ gb1002 0 hn1005_0 (.string ((rd_T56 l0 x10_1).f0)) hx1005_0;replace hx1005_1:=cf_ gb1002 0 hn1005_0 (.string ((rd_T56 l0 x10_1).f0)) hx1005_1;replace hx1005_0:=cf_ gb1002 1 hn1005_1 (.string ((rd_T56 l0 x10_1).f1)) hx1005_0;replace hx1005_1:=cf_ gb1002 1 hn1005_1 (.string ((rd_T56 l0 x10_1).f1)) hx1005_1;(try have hy1005_0:=fun (n_ : Nat) => (show ((((w18.drewN n_).setCell ⟨gb1002,0,none⟩ (.string ((rd_T56 l0 x10_1).f0))).setCell ⟨gb1002,1,none⟩ (.string ((rd_T56 l0 x10_1).f1)))).cell? _ = some _ from hx1005_0));(try have hy1005_1:=fun (n_ : Nat) => (show ((((w18.drewN n_).setCell ⟨gb1002,0,none⟩ (.string ((rd_T56 l0 x10_1).f0))).setCell ⟨gb1002,1,none⟩ (.string ((rd_T56 l0 x10_1).f1)))).cell? _ = some _ from hx1005_1));clear hn1005_0;clear hn1005_1;replace p1005:=eq_true p1005;replace q1005:=eq_true q1005)|(go_at_call 51;(with_reducible refine (spec_l2CmpText.calls k1 ((rd_T56 l0 (ji11)).f0) ((rd_T56 l0 x10_1).f0) t1006 _ A14.out).mono ?_);rintro e w' ⟨rfl,⟨nd,rfl⟩⟩;(try exact dd_)));try go_wp2));go_roundg k1
         case measure => have:=HK1.out;omega
         case rel => exact ⟨(wrap64 (x10_1 + 1)),rs_,H',⟨by have:=HK1.out;omega⟩,⟨bg_⟩⟩
       ·rw [if_neg c10] at H;have c10b0:=df_ c10;clear c10;have H':=am_ H;clear H;have p1001 : 0 ≤ (x10_1 : Int):=od_;have q1001 : x10_1 < (l0.length : Int):=od_;obtain ⟨ad1001,e1001,hx1001_0,hx1001_1⟩:=at_T56 HR0.out x10_1 p1001 q1001
        cases e1001
        replace hx1001_0:=kp_ HB hx1001_0;replace hx1001_1:=kp_ HB hx1001_1;replace p1001:=eq_true p1001;replace q1001:=eq_true q1001;go_wp2_with (first|((with_reducible refine gate_dst (N:=4) rfl ?_);refine bx_ 4 #[.string (⟨#[]⟩ : ByteArray),.string (⟨#[]⟩ : ByteArray)] 56 ?_;intro gb1002 hg w20 hbox hb;have BK1002:=am_ (hbox);have GW1002:=am_ (gs_ hg : w.heap.size ≤ gb1002);replace HB:=am_ (below_step bl_ hb);have GE1002:=GW1002;clear hb hbox hg;have hz21:=bk2_ BK1002));(repeat (go_quiet (first|(go_at_call 49;(with_reducible refine (spec_l2Name.calls k1 ((rd_T56 l0 x10_1).f0) true _ A6.out).mono ?_);rintro e w' ⟨rfl,⟨nd,rfl⟩⟩;(try exact dd_))|(go_at_call 50;(with_reducible refine (spec_l2Value.calls k1 ((rd_T56 l0 x10_1).f1) true _ A8.out).mono ?_);rintro e w' ⟨rfl,⟨nd,rfl⟩⟩;(try exact dd_)));try go_wp2));go_roundg k1
        case measure => have:=HK1.out;omega
        case rel => exact ⟨(wrap64 (x10_1 + 1)),rs_,H',⟨by have:=HK1.out;omega⟩,⟨bg_⟩⟩
      ·replace c9:=Bool.eq_false_iff.mpr c9;subst c9;replace H:=if_ H;obtain rfl:=si_ H;have p1001 : 0 ≤ (x10_1 : Int):=od_;have q1001 : x10_1 < (l0.length : Int):=od_;obtain ⟨ad1001,e1001,hx1001_0,hx1001_1⟩:=at_T56 HR0.out x10_1 p1001 q1001
       cases e1001
       replace hx1001_0:=kp_ HB hx1001_0;replace hx1001_1:=kp_ HB hx1001_1;replace p1001:=eq_true p1001;replace q1001:=eq_true q1001;go_wp2_with (first|((with_reducible refine gate_dst (N:=4) rfl ?_);refine bx_ 4 #[.string (⟨#[]⟩ : ByteArray),.string (⟨#[]⟩ : ByteArray)] 56 ?_;intro gb1002 hg w22 hbox hb;have BK1002:=am_ (hbox);have GW1002:=am_ (gs_ hg : w.heap.size ≤ gb1002);replace HB:=am_ (below_step bl_ hb);have GE1002:=GW1002;clear hb hbox hg;have hz23:=bk2_ BK1002));(repeat (go_quiet (first|(go_at_call 49;(with_reducible refine (spec_l2Name.calls k1 ((rd_T56 l0 x10_1).f0) true _ A6.out).mono ?_);rintro e w' ⟨rfl,⟨nd,rfl⟩⟩;(try exact dd_))|(go_at_call 50;(with_reducible refine (spec_l2Value.calls k1 ((rd_T56 l0 x10_1).f1) false _ A8.out).mono ?_);rintro e w' ⟨rfl,⟨nd,rfl⟩⟩;(try exact dd_)));try go_wp2));go_ret;exact ⟨rf_,bg_⟩
     ·replace c7:=Bool.eq_false_iff.mpr c7;subst c7;replace H:=if_ H;obtain rfl:=si_ H;have p1001 : 0 ≤ (x10_1 : Int):=od_;have q1001 : x10_1 < (l0.length : Int):=od_;obtain ⟨ad1001,e1001,hx1001_0,hx1001_1⟩:=at_T56 HR0.out x10_1 p1001 q1001
      cases e1001
      replace hx1001_0:=kp_ HB hx1001_0;replace hx1001_1:=kp_ HB hx1001_1;replace p1001:=eq_true p1001;replace q1001:=eq_true q1001;go_wp2_with (first|((with_reducible refine gate_dst (N:=4) rfl ?_);refine bx_ 4 #[.string (⟨#[]⟩ : ByteArray),.string (⟨#[]⟩ : ByteArray)] 56 ?_;intro gb1002 hg w24 hbox hb;have BK1002:=am_ (hbox);have GW1002:=am_ (gs_ hg : w.heap.size ≤ gb1002);replace HB:=am_ (below_step bl_ hb);have GE1002:=GW1002;clear hb hbox hg;have hz25:=bk2_ BK1002));(repeat (go_quiet (first|(go_at_call 49;(with_reducible refine (spec_l2Name.calls k1 ((rd_T56 l0 x10_1).f0) false _ A6.out).mono ?_);rintro e w' ⟨rfl,⟨nd,rfl⟩⟩;(try exact dd_)));try go_wp2));go_ret;exact ⟨rf_,bg_⟩
    ·rw [if_neg c3] at H;have c3b0:=decide_eq_false c3;clear c3;obtain rfl:=si_ H;go_wp2;go_ret;exact ⟨rf_,bl_⟩
def spec_l2Of.l0 : Nat → ByteArray → List (S56) → Int → Int → Option (ByteArray)
 | 0,_,_,_,_ => none
 | k + 1,x1,x7,x8,x9 => if x9 < x8 then (if 0 ≤ x9 then (if x9 < (x7.length : Int) then (if ((rd_T56 x7 x9).f0).toList = x1.toList then (some ((rd_T56 x7 x9).f1)) else (spec_l2Of.l0 k x1 x7 x8 (wrap64 (x9 + 1)))) else (none)) else (none)) else (some (⟨#[]⟩ : ByteArray))
def spec_l2Of.f (k : Nat) (l0 : List (S56)) (a1 : ByteArray) : Option (ByteArray):=spec_l2Of.l0 k a1 l0 (l0.length : Int) 0
theorem spec_l2Of.mono_l : ∀ k,(∀ y0 y1 y2 y3,LeO (spec_l2Of.l0 k y0 y1 y2 y3) (spec_l2Of.l0 (k + 1) y0 y1 y2 y3))
 | 0 => fun _ _ _ _ r h => by simp [spec_l2Of.l0] at h
 | k + 1 => by
  have ih0:=spec_l2Of.mono_l k
  ·intro y0 y1 y2 y3
   unfold spec_l2Of.l0
   repeat' with_reducible first|apply ih0|apply LeO.refl|apply LeO.none|apply LeO.ite|refine LeO.bind ?_ (fun _ => ?_)
theorem spec_l2Of.mono : ∀ a0 a1 k,LeO (spec_l2Of.f k a0 a1) (spec_l2Of.f (k + 1) a0 a1):=by
 intro a0 a1 k
 have ih0:=spec_l2Of.mono_l k
 unfold spec_l2Of.f
 repeat' with_reducible first|apply ih0|apply LeO.refl|apply LeO.none|apply LeO.ite|refine LeO.bind ?_ (fun _ => ?_)
theorem spec_l2Of.calls (k : Nat) (A0 : Option Addr) (c0 : Nat) (l0 : List (S56)) (a1 : ByteArray) (r : ByteArray) (w : World) (hr0 : Kd.C k56 w A0 l0.length l0) (hc0 : l0.length ≤ c0) (h : spec_l2Of.f k l0 a1 = some r) :
  Calls Try.prog 52 #[.slice A0 l0.length c0,.string a1] w fun e w' => e = .returned (.string r) ∧ Below w.heap.size w w':=by
 have hu56:=Try.underlying56;have HR0:=am_ hr0;have HC0:=am_ hc0;clear hr0 hc0;have HB:=am_ (Below.refl w.heap.size w);have H:=h;clear h;unfold spec_l2Of.f at H;have H':=am_ H;clear H;go_enter Try.func52,Try.ntmps52;go_wp2
 go_loopg [9] k (fun kq v9 w' => ∃ (x9_1 : Int),v9 = .int .i64 x9_1 ∧ Aside0 (spec_l2Of.l0 kq a1 l0 (l0.length : Int) x9_1 = some r) ∧ Aside0 (kq ≤ k) ∧ Aside0 (Below w.heap.size w w'))
 case atStart => exact ⟨(0),rs_,H',⟨Nat.le_refl _⟩,⟨bl_⟩⟩
 case round =>
  clear H';obtain ⟨x9_1,rfl,HA,HK1,HB⟩:=hrel
  cases gk with
  | zero => exact absurd HA.out (by simp [spec_l2Of.l0])
  | succ k1 =>
   have H:=HA.out;clear HA;simp only [spec_l2Of.l0] at H
   by_cases c3 : x9_1 < (l0.length : Int)
   ·rw [if_pos c3] at H;have c3b0:=decide_eq_true c3;clear c3;replace H:=is_ H;obtain ⟨c4,H⟩:=H;have c4b0:=decide_eq_true c4;clear c4;replace H:=is_ H;obtain ⟨c5,H⟩:=H;have c5b0:=decide_eq_true c5;clear c5
    by_cases c6 : ((rd_T56 l0 x9_1).f0).toList = a1.toList
    ·rw [if_pos c6] at H;have c6b0:=eb_ c6;have c6b1:=en_ c6;clear c6;obtain rfl:=si_ H;have p1001 : 0 ≤ (x9_1 : Int):=od_;have q1001 : x9_1 < (l0.length : Int):=od_;obtain ⟨ad1001,e1001,hx1001_0,hx1001_1⟩:=at_T56 HR0.out x9_1 p1001 q1001
     cases e1001
     replace hx1001_0:=kp_ HB hx1001_0;replace hx1001_1:=kp_ HB hx1001_1;replace p1001:=eq_true p1001;replace q1001:=eq_true q1001;go_wp2_with (first|((with_reducible refine gate_dst (N:=6) rfl ?_);refine bx_ 6 #[.string (⟨#[]⟩ : ByteArray),.string (⟨#[]⟩ : ByteArray)] 56 ?_;intro gb1002 hg w7 hbox hb;have BK1002:=am_ (hbox);have GW1002:=am_ (gs_ hg : w.heap.size ≤ gb1002);replace HB:=am_ (below_step bl_ hb);have GE1002:=GW1002;clear hb hbox hg;have hz8:=bk2_ BK1002));go_ret;exact ⟨rf_,bg_⟩
    ·rw [if_neg c6] at H;have c6b0:=nb_ c6;have c6b1:=nn_ c6;have H':=am_ H;clear H;have p1001 : 0 ≤ (x9_1 : Int):=od_;have q1001 : x9_1 < (l0.length : Int):=od_;obtain ⟨ad1001,e1001,hx1001_0,hx1001_1⟩:=at_T56 HR0.out x9_1 p1001 q1001
     cases e1001
     replace hx1001_0:=kp_ HB hx1001_0;replace hx1001_1:=kp_ HB hx1001_1;replace p1001:=eq_true p1001;replace q1001:=eq_true q1001;go_wp2_with (first|((with_reducible refine gate_dst (N:=6) rfl ?_);refine bx_ 6 #[.string (⟨#[]⟩ : ByteArray),.string (⟨#[]⟩ : ByteArray)] 56 ?_;intro gb1002 hg w9 hbox hb;have BK1002:=am_ (hbox);have GW1002:=am_ (gs_ hg : w.heap.size ≤ gb1002);replace HB:=am_ (below_step bl_ hb);have GE1002:=GW1002;clear hb hbox hg;have hz10:=bk2_ BK1002));go_roundg k1
     case measure => have:=HK1.out;omega
     case rel => exact ⟨(wrap64 (x9_1 + 1)),rs_,H',⟨by have:=HK1.out;omega⟩,⟨bg_⟩⟩
   ·rw [if_neg c3] at H;have c3b0:=decide_eq_false c3;clear c3;obtain rfl:=si_ H;go_wp2;go_ret;exact ⟨rf_,bl_⟩
def spec_l5Bare.f (k : Nat) (l0 : List (S56)) : Option (Bool):=(spec_GoodLabels.f k l0).bind fun t1001 => (if t1001 = true then (if (l0.length : Int) < 20 then ((spec_l2Of.f k l0 (⟨#[95,110,97,109,101]⟩ : ByteArray)).bind fun t1002 => (some (t1002.toList == ([] : List UInt8)))) else (some false)) else (some false))
theorem spec_l5Bare.mono : ∀ a0 k,LeO (spec_l5Bare.f k a0) (spec_l5Bare.f (k + 1) a0):=by
 intro a0 k
 unfold spec_l5Bare.f
 repeat' with_reducible first|apply spec_GoodLabels.mono|apply spec_l2Of.mono|apply LeO.refl|apply LeO.none|apply LeO.ite|refine LeO.bind ?_ (fun _ => ?_)
theorem spec_l5Bare.calls (k : Nat) (A0 : Option Addr) (c0 : Nat) (l0 : List (S56)) (r : Bool) (w : World) (hr0 : Kd.C k56 w A0 l0.length l0) (hc0 : l0.length ≤ c0) (h : spec_l5Bare.f k l0 = some r) :
  Calls Try.prog 47 #[.slice A0 l0.length c0] w fun e w' => e = .returned (.bool r) ∧ Below w.heap.size w w':=by
 have HR0:=am_ hr0;have HC0:=am_ hc0;clear hr0 hc0;have HB:=am_ (Below.refl w.heap.size w);have H:=h;clear h;unfold spec_l5Bare.f at H;replace H:=bs_ H;obtain ⟨t1001,A2,H⟩:=H
 by_cases c3 : t1001 = true
 ·subst c3;replace H:=it_ H
  by_cases c4 : (l0.length : Int) < 20
  ·rw [if_pos c4] at H;have c4b0:=decide_eq_true c4;have c4b1 : decide (l0.length < 20) = true:=decide_eq_true (by omega);clear c4;replace H:=bs_ H;obtain ⟨t1002,A5,H⟩:=H;obtain rfl:=si_ H;go_enter Try.func47,Try.ntmps47;go_wp2_with (first|((with_reducible refine gate_callee (f:=26) rfl ?_);refine gl_ 4 Try.func26 #[.slice A0 l0.length c0] ?_;(with_reducible refine (spec_GoodLabels.calls k _ _ l0 true _ ?side1 ?side2 A2.out).mono ?_);(case side1 => repeat (first|exact HR0.out|(with_reducible refine Kd.C_alloc ?_ _)|(with_reducible refine Kd.C_drewN ?_ _)|(with_reducible refine Kd.C_drew ?_)));(case side2 => exact HC0.out);rintro e w6 ⟨rfl,hb⟩;refine ⟨_,rfl,?_⟩;replace HB:=am_ (below_step bl_ hb);(try clear hb))|(go_at_call 52;(with_reducible refine (spec_l2Of.calls k _ _ l0 (⟨#[95,110,97,109,101]⟩ : ByteArray) t1002 _ ?side1 ?side2 A5.out).mono ?_);(case side1 => exact cc_ (Kd.C_below HR0.out HB.out));(case side2 => exact HC0.out);rintro e w7 ⟨rfl,hb⟩;replace HB:=am_ (below_step bl_ hb);(try clear hb)));go_ret;exact ⟨rf_,bl_⟩
  ·rw [if_neg c4] at H;have c4b0:=decide_eq_false c4;have c4b1 : decide (l0.length < 20) = false:=decide_eq_false (by omega);clear c4;obtain rfl:=si_ H;go_enter Try.func47,Try.ntmps47;go_wp2_with (first|((with_reducible refine gate_callee (f:=26) rfl ?_);refine gl_ 4 Try.func26 #[.slice A0 l0.length c0] ?_;(with_reducible refine (spec_GoodLabels.calls k _ _ l0 true _ ?side1 ?side2 A2.out).mono ?_);(case side1 => repeat (first|exact HR0.out|(with_reducible refine Kd.C_alloc ?_ _)|(with_reducible refine Kd.C_drewN ?_ _)|(with_reducible refine Kd.C_drew ?_)));(case side2 => exact HC0.out);rintro e w8 ⟨rfl,hb⟩;refine ⟨_,rfl,?_⟩;replace HB:=am_ (below_step bl_ hb);(try clear hb)));go_ret;exact ⟨rf_,bl_⟩
 ·replace c3:=Bool.eq_false_iff.mpr c3;subst c3;replace H:=if_ H;obtain rfl:=si_ H;go_enter Try.func47,Try.ntmps47;go_wp2_with (first|((with_reducible refine gate_callee (f:=26) rfl ?_);refine gl_ 4 Try.func26 #[.slice A0 l0.length c0] ?_;(with_reducible refine (spec_GoodLabels.calls k _ _ l0 false _ ?side1 ?side2 A2.out).mono ?_);(case side1 => repeat (first|exact HR0.out|(with_reducible refine Kd.C_alloc ?_ _)|(with_reducible refine Kd.C_drewN ?_ _)|(with_reducible refine Kd.C_drew ?_)));(case side2 => exact HC0.out);rintro e w9 ⟨rfl,hb⟩;refine ⟨_,rfl,?_⟩;replace HB:=am_ (below_step bl_ hb);(try clear hb)));go_ret;exact ⟨rf_,bl_⟩
def kcut : Kd (Option Addr × Nat × Nat):=Kd.scalar (fun x => .slice x.1 x.2.1 x.2.2) (fun _ => rfl)
theorem move_apart {α : Type} {d : Kd α} {e base : Nat} {W w1 : World} {v v1 x : Value} {o : List α} (h4 : Kd.S d e W base (fun k => some k ≠ v.ownBlock) x o) (hg : W.grownBy w1 v.ownBlock) (hat : v1.ownBlock = v.ownBlock ∨ ∃ b,v1.ownBlock = some b ∧ W.heap.size ≤ b) : Kd.S d e w1 base (fun k => some k ≠ v1.ownBlock) x o :=
 Kd.S_mono (Kd.S_after (ok:=fun _ => True) (Kd.S_mono h4 (fun _ hk => ⟨trivial,hk⟩)) hg hat) (fun _ hk => hk.2)
theorem sq_ {p q : Prop} (H : Aside0 p) (h : p → q:=by (intro hv_;(with_reducible repeat (first|apply Kd.S_alloc|apply Kd.S_drewN|apply Kd.S_drew));exact hv_)) : q:=h H.out
def okE (d : Int) : Bool:=decide (d = 42) || decide (d = 63) || decide (d = 124) || decide (d = 92)
def altS (s : ByteArray) : Nat → Nat → List (List Int) → List Int → List (List Int) × Bool
 | 0,_,o,nw => (o ++ [nw],true)
 | d + 1,i,o,nw => if i < s.size then (if bt s (i : Int) = 124 then altS s d (i + 1) (o ++ [nw]) [] else if bt s (i : Int) = 42 then altS s d (i + 1) o (nw ++ [-1]) else if bt s (i : Int) = 63 then altS s d (i + 1) o (nw ++ [-2]) else if bt s (i : Int) = 92 then (if i + 1 < s.size then (if okE (bt s ((i + 1 : Nat) : Int)) = true then altS s d (i + 2) o (nw ++ [bt s ((i + 1 : Nat) : Int)]) else ([],false)) else ([],false)) else altS s d (i + 1) o (nw ++ [bt s (i : Int)])) else (o ++ [nw],true)
theorem altS_more (s : ByteArray) : ∀ (d d' i : Nat) (o : List (List Int)) (nw : List Int),s.size - i ≤ d → s.size - i ≤ d' → altS s d i o nw = altS s d' i o nw:=by
 intro d
 induction d with
 | zero =>
  intro d' i o nw h _
  cases d' with
  | zero => rfl
  | succ d' => simp only [altS];rw [if_neg (by omega)]
 | succ d ih =>
  intro d' i o nw h h'
  by_cases hi : i < s.size
  ·obtain ⟨d',rfl⟩ : ∃ m,d' = m + 1:=⟨d' - 1,by omega⟩
   simp only [altS]
   rw [if_pos hi,if_pos hi,ih d' (i + 2) _ _ (by omega) (by omega),ih d' (i + 1) (o ++ [nw]) _ (by omega) (by omega),ih d' (i + 1) o (nw ++ [-1]) (by omega) (by omega),ih d' (i + 1) o (nw ++ [-2]) (by omega) (by omega),ih d' (i + 1) o (nw ++ [bt s (i : Int)]) (by omega) (by omega)]
  ·cases d' with
   | zero => simp only [altS];rw [if_neg hi]
   | succ d' => simp only [altS];rw [if_neg hi,if_neg hi]
def altA (s : ByteArray) (i : Nat) (o : List (List Int)) (nw : List Int) : List (List Int) × Bool:=altS s (s.size - i) i o nw
theorem altA_end {s : ByteArray} {i : Nat} {o : List (List Int)} {nw : List Int} (h : ¬ i < s.size) : altA s i o nw = (o ++ [nw],true):=by unfold altA;rw [show s.size - i = 0 from by omega];rfl
theorem altA_one {s : ByteArray} {i : Nat} {o : List (List Int)} {nw : List Int} (h : i < s.size) : altA s i o nw = if bt s (i : Int) = 124 then altA s (i + 1) (o ++ [nw]) [] else if bt s (i : Int) = 42 then altA s (i + 1) o (nw ++ [-1]) else if bt s (i : Int) = 63 then altA s (i + 1) o (nw ++ [-2]) else if bt s (i : Int) = 92 then (if i + 1 < s.size then (if okE (bt s ((i + 1 : Nat) : Int)) = true then altA s (i + 2) o (nw ++ [bt s ((i + 1 : Nat) : Int)]) else ([],false)) else ([],false)) else altA s (i + 1) o (nw ++ [bt s (i : Int)]):=by
 unfold altA
 rw [show s.size - i = (s.size - (i + 1)) + 1 from by omega]
 simp only [altS]
 rw [if_pos h,altS_more s (s.size - (i + 1)) (s.size - (i + 2)) (i + 2) _ _ (by omega) (by omega)]
theorem altA_bar {s : ByteArray} {i : Nat} {o : List (List Int)} {nw : List Int} (h : i < s.size) (hc : bt s (i : Int) = 124) : altA s i o nw = altA s (i + 1) (o ++ [nw]) []:=by rw [altA_one h,if_pos hc]
theorem altA_star {s : ByteArray} {i : Nat} {o : List (List Int)} {nw : List Int} (h : i < s.size) (hc : bt s (i : Int) = 42) : altA s i o nw = altA s (i + 1) o (nw ++ [-1]):=by rw [altA_one h,if_neg (by omega),if_pos hc]
theorem altA_any {s : ByteArray} {i : Nat} {o : List (List Int)} {nw : List Int} (h : i < s.size) (hc : bt s (i : Int) = 63) : altA s i o nw = altA s (i + 1) o (nw ++ [-2]):=by rw [altA_one h,if_neg (by omega),if_neg (by omega),if_pos hc]
theorem altA_cut {s : ByteArray} {i : Nat} {o : List (List Int)} {nw : List Int} (h : i < s.size) (hc : bt s (i : Int) = 92) (h' : ¬ i + 1 < s.size) : altA s i o nw = ([],false):=by rw [altA_one h,if_neg (by omega),if_neg (by omega),if_neg (by omega),if_pos hc,if_neg h']
theorem altA_esc {s : ByteArray} {i : Nat} {o : List (List Int)} {nw : List Int} (h : i + 1 < s.size) (hc : bt s (i : Int) = 92) : altA s i o nw = if okE (bt s ((i + 1 : Nat) : Int)) = true then altA s (i + 2) o (nw ++ [bt s ((i + 1 : Nat) : Int)]) else ([],false):=by rw [altA_one (by omega),if_neg (by omega),if_neg (by omega),if_neg (by omega),if_pos hc,if_pos h]
theorem altA_on {s : ByteArray} {i : Nat} {o : List (List Int)} {nw : List Int} (h : i < s.size) (h1 : bt s (i : Int) ≠ 124) (h2 : bt s (i : Int) ≠ 42) (h3 : bt s (i : Int) ≠ 63) (h4 : bt s (i : Int) ≠ 92) : altA s i o nw = altA s (i + 1) o (nw ++ [bt s (i : Int)]):=by rw [altA_one h,if_neg h1,if_neg h2,if_neg h3,if_neg h4]
theorem wrap_bt (s : ByteArray) (i : Int) : wrap64 (bt s i) = bt s i:=by have:=bt_range s i;unfold wrap64;omega
def spec_l2Alternatives.f (k : Nat) (a0 : ByteArray) : Option (List (List Int) × Bool):=if (a0.size : Int) > 100 then some ([],false) else (spec_l2Printed.f k a0).bind fun t => if t = true then some (altA a0 0 [] []) else some ([],false)
theorem spec_l2Alternatives.mono : ∀ a0 k,LeO (spec_l2Alternatives.f k a0) (spec_l2Alternatives.f (k + 1) a0):=by
 intro a0 k
 unfold spec_l2Alternatives.f
 exact LeO.ite (LeO.refl _) (LeO.bind (spec_l2Printed.mono _ _) (fun _ => LeO.refl _))
theorem spec_l2Alternatives.calls (k : Nat) (a0 : ByteArray) (r1 : List (List Int)) (r2 : Bool) (w : World) (h : spec_l2Alternatives.f k a0 = some (r1,r2)) :
  Calls Try.prog 127 #[.string a0] w fun e w' => ∃ v0_ : Value,e = .returned (.tuple #[v0_,.bool r2]) ∧ Kd.S (Kd.slice 3 (Kd.int .i64)) 126 w' w.heap.size (fun _ => True) v0_ r1 ∧ Below w.heap.size w w':=by
 have i3 : (Try.prog.info? 3).map (fun i => (i.zero,i.size,i.bytes)) = some (some (.int .i64 0),1,8):=by kernel_rfl
 have iS : (Try.prog.info? 126).map (fun i => (i.zero,i.size,i.bytes)) = some (some (.slice none 0 0),1,24):=by kernel_rfl
 have HB:=am_ (Below.refl w.heap.size w)
 unfold spec_l2Alternatives.f at h
 by_cases c1 : (a0.size : Int) > 100
 ·rw [if_pos c1] at h
  have c1b0 : decide (100 < (a0.size : Int)) = true:=decide_eq_true c1
  simp only [Option.some.injEq,Prod.mk.injEq] at h
  obtain ⟨rfl,rfl⟩:=h
  go_enter Try.func127,Try.ntmps127
  go_wp2
  go_ret2
  exact ⟨_,rf_,ni_,bl_⟩
 ·rw [if_neg c1] at h
  have c1b0 : decide (100 < (a0.size : Int)) = false:=decide_eq_false c1
  have HZ:=am_ (show a0.size ≤ 100 by omega)
  clear c1
  obtain ⟨t,ht,h⟩:=Option.bind_eq_some_iff.mp h
  have HT:=am_ ht
  clear ht
  cases t with
  | false =>
   rw [if_neg (by decide)] at h
   simp only [Option.some.injEq,Prod.mk.injEq] at h
   obtain ⟨rfl,rfl⟩:=h
   go_enter Try.func127,Try.ntmps127
   go_wp2_with (first|(go_at_call 89;refine (spec_l2Printed.calls k a0 false _ HT.out).mono ?_;rintro e w' ⟨rfl,⟨nd,rfl⟩⟩))
   go_ret2
   exact ⟨_,rf_,ni_,bl_⟩
  | true =>
   rw [if_pos rfl] at h
   have HR:=am_ (Option.some.inj h)
   clear h
   go_enter Try.func127,Try.ntmps127
   go_wp2_with (first|(go_at_call 89;refine (spec_l2Printed.calls k a0 true _ HT.out).mono ?_;rintro e w' ⟨rfl,⟨nd,rfl⟩⟩))
   go_loopg [4,5,6] a0.size (fun gg v4 v5 v6 w' => ∃ (o : List (List Int)) (nw : List Int) (i : Nat),v6 = .int .i64 (i : Int) ∧ Aside0 (o.length ≤ i ∧ nw.length ≤ i ∧ i ≤ a0.size ∧ a0.size ≤ 100 ∧ a0.size - i ≤ gg) ∧ Aside0 (altA a0 i o nw = (r1,r2)) ∧ Aside0 (Kd.S (Kd.slice 3 (Kd.int .i64)) 126 w' w.heap.size (fun k_ => some k_ ≠ (v5 : Value).ownBlock) v4 o) ∧ Aside0 (Kd.R (Kd.int .i64) 3 w' w.heap.size (fun _ => True) v5 nw) ∧ Aside0 (Below w.heap.size w w'))
   case atStart => exact ⟨[],[],0,rs_,⟨by have:=HZ.out;simp;omega⟩,HR,⟨ni_⟩,⟨ni_⟩,⟨bl_⟩⟩
   case round =>
    obtain ⟨o,nw,i,rfl,HL,HA,HO_4,HO_5,HB⟩:=hrel
    obtain ⟨I,hI⟩ : ∃ I : Int,(i : Int) = I:=⟨_,rfl⟩
    obtain ⟨Ao,co,e5⟩:=Kd.R_slice HO_5.out
    subst e5
    rw [hI]
    have HI:=am_ hI
    by_cases c4 : I < (a0.size : Int)
    ·have c4b0 : decide (I < (a0.size : Int)) = true:=decide_eq_true c4
     have hI0 : 0 ≤ I:=by omega
     have hx6:=bt_at a0 I
     have p6:=eq_true hI0
     have q6:=eq_true c4
     have HIL:=am_ c4
     have HI0:=am_ hI0
     clear c4 hI0 hI
     by_cases d124 : bt a0 I = 124
     ·have c124b0 : (bt a0 I == 124) = true:=beq_iff_eq.mpr d124
      have HN:=am_ d124
      clear d124
      go_wp2_with (first|((with_reducible refine gate_builtin (b:=.append) (xs:=#[.tmp 33,.tmp 35]) rfl ?_);at_builtin;refine Kd.S_append (Kd.slice 3 (Kd.int .i64)) (w0:=w) w.heap.size rfl (.tmp 33) (.tmp 35) 131 126 (.slice none 0 0) 24 rfl Try.underlying131 iS rfl (by decide) (by omega) u4 o nw [.slice Ao nw.length co] (fun _ => True) (fun k_ => some k_ = (.slice Ao nw.length co : Value).ownBlock) rfl rfl ?aP (fun k_ hk => ⟨trivial,fun he => (Kd.S_R HO_4.out).1 k_ he.symm hk⟩) ?aF ?aO ?aB ?aS ?aL ?_;(case aP => exact Kd.M_row (Kd.R_tight rfl (show Kd.R (Kd.int .i64) 3 _ w.heap.size (fun _ => True) (.slice Ao nw.length co) nw from ro_ HO_5)));(case aB => exact bl_);(case aF => exact (fun _ _ => trivial));(case aO => exact Kd.S_mono (show Kd.S (Kd.slice 3 (Kd.int .i64)) 126 _ w.heap.size _ u4 o from sq_ HO_4) (fun _ hk => ⟨trivial,hk⟩));(case aS => exact (below_size bl_));(case aL => have:=HL.out;omega);intro v90 w90 ho hb hg hat;have n1_:=am_ hb;have n2_:=am_ ho;clear HO_4 HO_5 HB;have HO_4:=n2_;have HB:=n1_;clear n1_ n2_ ho hb hg hat))
      go_roundg (a0.size - (i + 1))
      case measure => have h1_:=HI.out;have h2_:=HL.out;have h3_:=HIL.out;omega
      case rel => exact ⟨o ++ [nw],[],i + 1,(by first|rfl|(have h1_:=HI.out;have h2_:=HL.out;have h3_:=HIL.out;congr 1;unfold wrap64;omega)),⟨by have h1_:=HI.out;have h2_:=HL.out;have h3_:=HIL.out;simp only [List.length_append,List.length_singleton,List.length_nil];omega⟩,⟨(altA_bar (by have h1_:=HI.out;have h3_:=HIL.out;omega) (by rw [HI.out];exact HN.out)).symm.trans HA.out⟩,⟨Kd.S_mono HO_4.out (fun k_ _ => by simp [Value.ownBlock])⟩,⟨ni_⟩,⟨bl_⟩⟩
     ·have c124b0 : (bt a0 I == 124) = false:=beq_eq_false_iff_ne.mpr d124
      by_cases d42 : bt a0 I = 42
      ·have c42b0 : (bt a0 I == 42) = true:=beq_iff_eq.mpr d42
       have HN:=am_ d42
       clear d42
       go_wp2_with (first|((with_reducible refine gate_builtin (b:=.append) (xs:=#[.tmp 39,.tmp 40]) rfl ?_);at_builtin;refine Kd.R_append (Kd.int .i64) (w0:=w) w.heap.size rfl (.tmp 39) (.tmp 40) 126 3 (.int .i64 0) 8 rfl Try.underlying126 i3 rfl (by decide) (by omega) (.slice Ao nw.length co) nw (-1) [.int .i64 (-1)] (fun _ => True) (fun _ => False) rfl rfl ?aP (fun _ hk => hk.elim) ?aF ?aO ?aB ?aS ?aL ?_;(case aP => exact rfl);(case aB => exact bl_);(case aF => exact (fun _ _ => trivial));(case aO => exact (ro_ HO_5));(case aS => exact (below_size bl_));(case aL => have:=HL.out;omega);intro v90 w90 ho hb hg hat;have n0_:=am_ (move_apart (show Kd.S (Kd.slice 3 (Kd.int .i64)) 126 _ w.heap.size _ u4 o from sq_ HO_4) hg hat);have n1_:=am_ hb;have n2_:=am_ ho;clear HO_4 HO_5 HB;have HO_4:=n0_;have HB:=n1_;have HO_5:=n2_;clear n0_ n1_ n2_ ho hb hg hat))
       go_roundg (a0.size - (i + 1))
       case measure => have h1_:=HI.out;have h2_:=HL.out;have h3_:=HIL.out;omega
       case rel => exact ⟨o,nw ++ [-1],i + 1,(by first|rfl|(have h1_:=HI.out;have h2_:=HL.out;have h3_:=HIL.out;congr 1;unfold wrap64;omega)),⟨by have h1_:=HI.out;have h2_:=HL.out;have h3_:=HIL.out;simp only [List.length_append,List.length_singleton,List.length_nil];omega⟩,⟨(altA_star (by have h1_:=HI.out;have h3_:=HIL.out;omega) (by rw [HI.out];exact HN.out)).symm.trans HA.out⟩,⟨sq_ HO_4⟩,⟨ro_ HO_5⟩,⟨bl_⟩⟩
      ·have c42b0 : (bt a0 I == 42) = false:=beq_eq_false_iff_ne.mpr d42
       by_cases d63 : bt a0 I = 63
       ·have c63b0 : (bt a0 I == 63) = true:=beq_iff_eq.mpr d63
        have HN:=am_ d63
        clear d63
        go_wp2_with (first|((with_reducible refine gate_builtin (b:=.append) (xs:=#[.tmp 44,.tmp 45]) rfl ?_);at_builtin;refine Kd.R_append (Kd.int .i64) (w0:=w) w.heap.size rfl (.tmp 44) (.tmp 45) 126 3 (.int .i64 0) 8 rfl Try.underlying126 i3 rfl (by decide) (by omega) (.slice Ao nw.length co) nw (-2) [.int .i64 (-2)] (fun _ => True) (fun _ => False) rfl rfl ?aP (fun _ hk => hk.elim) ?aF ?aO ?aB ?aS ?aL ?_;(case aP => exact rfl);(case aB => exact bl_);(case aF => exact (fun _ _ => trivial));(case aO => exact (ro_ HO_5));(case aS => exact (below_size bl_));(case aL => have:=HL.out;omega);intro v90 w90 ho hb hg hat;have n0_:=am_ (move_apart (show Kd.S (Kd.slice 3 (Kd.int .i64)) 126 _ w.heap.size _ u4 o from sq_ HO_4) hg hat);have n1_:=am_ hb;have n2_:=am_ ho;clear HO_4 HO_5 HB;have HO_4:=n0_;have HB:=n1_;have HO_5:=n2_;clear n0_ n1_ n2_ ho hb hg hat))
        go_roundg (a0.size - (i + 1))
        case measure => have h1_:=HI.out;have h2_:=HL.out;have h3_:=HIL.out;omega
        case rel => exact ⟨o,nw ++ [-2],i + 1,(by first|rfl|(have h1_:=HI.out;have h2_:=HL.out;have h3_:=HIL.out;congr 1;unfold wrap64;omega)),⟨by have h1_:=HI.out;have h2_:=HL.out;have h3_:=HIL.out;simp only [List.length_append,List.length_singleton,List.length_nil];omega⟩,⟨(altA_any (by have h1_:=HI.out;have h3_:=HIL.out;omega) (by rw [HI.out];exact HN.out)).symm.trans HA.out⟩,⟨sq_ HO_4⟩,⟨ro_ HO_5⟩,⟨bl_⟩⟩
       ·have c63b0 : (bt a0 I == 63) = false:=beq_eq_false_iff_ne.mpr d63
        by_cases d92 : bt a0 I = 92
        ·have c92b0 : (bt a0 I == 92) = true:=beq_iff_eq.mpr d92
         have H92:=am_ (show bt a0 (i : Int) = 92 by rw [HI.out];exact d92)
         obtain ⟨J,hJ⟩ : ∃ J : Int,I + 1 = J:=⟨_,rfl⟩
         have hJw : IntKind.i64.wrap (I + 1) = J:=by have h1_:=HI.out;have h2_:=HL.out;rw [IntKind.wrap_i64];omega
         have hJv : wrap64 (I + 1) = J:=by have h1_:=HI.out;have h2_:=HL.out;unfold wrap64;omega
         have HJ:=am_ (show ((i + 1 : Nat) : Int) = J by have h1_:=HI.out;omega)
         clear d92 d124 d42 d63 hJ
         by_cases e1 : J = (a0.size : Int)
         ·have e1b0 : (J == (a0.size : Int)) = true:=beq_iff_eq.mpr e1
          obtain ⟨rfl,rfl⟩ : r1 = [] ∧ r2 = false:=by have h:=(altA_cut (by have h1_:=HI.out;have h3_:=HIL.out;omega) H92.out (by have h1_:=HJ.out;omega)).symm.trans HA.out;simp only [Prod.mk.injEq] at h;exact ⟨h.1.symm,h.2.symm⟩
          clear e1
          go_wp2
          go_ret2
          exact ⟨_,rf_,ni_,bl_⟩
         ·have e1b0 : (J == (a0.size : Int)) = false:=beq_eq_false_iff_ne.mpr e1
          have j1 : J < (a0.size : Int):=by have h1_:=HJ.out;have h2_:=HIL.out;have h3_:=HI.out;omega
          have j0 : 0 ≤ J:=by have h1_:=HJ.out;omega
          have HE:=am_ ((altA_esc (s:=a0) (i:=i) (by have h1_:=HJ.out;omega) H92.out).symm.trans HA.out)
          have HJL:=am_ j1
          have hx7:=bt_at a0 J
          have p7:=eq_true j0
          have q7:=eq_true j1
          clear j0 j1 e1
          by_cases f42 : bt a0 J = 42
          ·have f42b0 : (bt a0 J != 42) = false:=bne_eq_false_iff_eq.mpr f42
           have HF:=am_ f42
           clear f42
           go_wp2_with (first|((with_reducible refine gate_builtin (b:=.append) (xs:=#[.tmp 79,.tmp 84]) rfl ?_);at_builtin;refine Kd.R_append (Kd.int .i64) (w0:=w) w.heap.size rfl (.tmp 79) (.tmp 84) 126 3 (.int .i64 0) 8 rfl Try.underlying126 i3 rfl (by decide) (by omega) (.slice Ao nw.length co) nw (wrap64 (bt a0 J)) [.int .i64 (wrap64 (bt a0 J))] (fun _ => True) (fun _ => False) rfl rfl ?aP (fun _ hk => hk.elim) ?aF ?aO ?aB ?aS ?aL ?_;(case aP => exact rfl);(case aB => exact bl_);(case aF => exact (fun _ _ => trivial));(case aO => exact (ro_ HO_5));(case aS => exact (below_size bl_));(case aL => have:=HL.out;omega);intro v90 w90 ho hb hg hat;have n0_:=am_ (move_apart (show Kd.S (Kd.slice 3 (Kd.int .i64)) 126 _ w.heap.size _ u4 o from sq_ HO_4) hg hat);have n1_:=am_ hb;have n2_:=am_ ho;clear HO_4 HO_5 HB;have HO_4:=n0_;have HB:=n1_;have HO_5:=n2_;clear n0_ n1_ n2_ ho hb hg hat))
           go_roundg (a0.size - (i + 2))
           case measure => have h1_:=HI.out;have h2_:=HL.out;have h3_:=HIL.out;omega
           case rel => exact ⟨o,nw ++ [wrap64 (bt a0 J)],i + 2,(by first|rfl|(have h1_:=HI.out;have h2_:=HL.out;have h3_:=HIL.out;have h4_:=HJ.out;have h5_:=HJL.out;congr 1;unfold wrap64;omega)),⟨by have h1_:=HI.out;have h2_:=HL.out;have h3_:=HIL.out;have h4_:=HJ.out;have h5_:=HJL.out;simp only [List.length_append,List.length_singleton,List.length_nil];omega⟩,⟨by have h:=HE.out;rw [HJ.out,if_pos (by unfold okE;rw [HF.out];rfl)] at h;rw [wrap_bt];exact h⟩,⟨sq_ HO_4⟩,⟨ro_ HO_5⟩,⟨bl_⟩⟩
          ·have f42b0 : (bt a0 J != 42) = true:=bne_iff_ne.mpr f42
           by_cases f63 : bt a0 J = 63
           ·have f63b0 : (bt a0 J != 63) = false:=bne_eq_false_iff_eq.mpr f63
            have HF:=am_ f63
            clear f63
            go_wp2_with (first|((with_reducible refine gate_builtin (b:=.append) (xs:=#[.tmp 79,.tmp 84]) rfl ?_);at_builtin;refine Kd.R_append (Kd.int .i64) (w0:=w) w.heap.size rfl (.tmp 79) (.tmp 84) 126 3 (.int .i64 0) 8 rfl Try.underlying126 i3 rfl (by decide) (by omega) (.slice Ao nw.length co) nw (wrap64 (bt a0 J)) [.int .i64 (wrap64 (bt a0 J))] (fun _ => True) (fun _ => False) rfl rfl ?aP (fun _ hk => hk.elim) ?aF ?aO ?aB ?aS ?aL ?_;(case aP => exact rfl);(case aB => exact bl_);(case aF => exact (fun _ _ => trivial));(case aO => exact (ro_ HO_5));(case aS => exact (below_size bl_));(case aL => have:=HL.out;omega);intro v90 w90 ho hb hg hat;have n0_:=am_ (move_apart (show Kd.S (Kd.slice 3 (Kd.int .i64)) 126 _ w.heap.size _ u4 o from sq_ HO_4) hg hat);have n1_:=am_ hb;have n2_:=am_ ho;clear HO_4 HO_5 HB;have HO_4:=n0_;have HB:=n1_;have HO_5:=n2_;clear n0_ n1_ n2_ ho hb hg hat))
            go_roundg (a0.size - (i + 2))
            case measure => have h1_:=HI.out;have h2_:=HL.out;have h3_:=HIL.out;omega
            case rel => exact ⟨o,nw ++ [wrap64 (bt a0 J)],i + 2,(by first|rfl|(have h1_:=HI.out;have h2_:=HL.out;have h3_:=HIL.out;have h4_:=HJ.out;have h5_:=HJL.out;congr 1;unfold wrap64;omega)),⟨by have h1_:=HI.out;have h2_:=HL.out;have h3_:=HIL.out;have h4_:=HJ.out;have h5_:=HJL.out;simp only [List.length_append,List.length_singleton,List.length_nil];omega⟩,⟨by have h:=HE.out;rw [HJ.out,if_pos (by unfold okE;rw [HF.out];rfl)] at h;rw [wrap_bt];exact h⟩,⟨sq_ HO_4⟩,⟨ro_ HO_5⟩,⟨bl_⟩⟩
           ·have f63b0 : (bt a0 J != 63) = true:=bne_iff_ne.mpr f63
            by_cases f124 : bt a0 J = 124
            ·have f124b0 : (bt a0 J != 124) = false:=bne_eq_false_iff_eq.mpr f124
             have HF:=am_ f124
             clear f124
             go_wp2_with (first|((with_reducible refine gate_builtin (b:=.append) (xs:=#[.tmp 79,.tmp 84]) rfl ?_);at_builtin;refine Kd.R_append (Kd.int .i64) (w0:=w) w.heap.size rfl (.tmp 79) (.tmp 84) 126 3 (.int .i64 0) 8 rfl Try.underlying126 i3 rfl (by decide) (by omega) (.slice Ao nw.length co) nw (wrap64 (bt a0 J)) [.int .i64 (wrap64 (bt a0 J))] (fun _ => True) (fun _ => False) rfl rfl ?aP (fun _ hk => hk.elim) ?aF ?aO ?aB ?aS ?aL ?_;(case aP => exact rfl);(case aB => exact bl_);(case aF => exact (fun _ _ => trivial));(case aO => exact (ro_ HO_5));(case aS => exact (below_size bl_));(case aL => have:=HL.out;omega);intro v90 w90 ho hb hg hat;have n0_:=am_ (move_apart (show Kd.S (Kd.slice 3 (Kd.int .i64)) 126 _ w.heap.size _ u4 o from sq_ HO_4) hg hat);have n1_:=am_ hb;have n2_:=am_ ho;clear HO_4 HO_5 HB;have HO_4:=n0_;have HB:=n1_;have HO_5:=n2_;clear n0_ n1_ n2_ ho hb hg hat))
             go_roundg (a0.size - (i + 2))
             case measure => have h1_:=HI.out;have h2_:=HL.out;have h3_:=HIL.out;omega
             case rel => exact ⟨o,nw ++ [wrap64 (bt a0 J)],i + 2,(by first|rfl|(have h1_:=HI.out;have h2_:=HL.out;have h3_:=HIL.out;have h4_:=HJ.out;have h5_:=HJL.out;congr 1;unfold wrap64;omega)),⟨by have h1_:=HI.out;have h2_:=HL.out;have h3_:=HIL.out;have h4_:=HJ.out;have h5_:=HJL.out;simp only [List.length_append,List.length_singleton,List.length_nil];omega⟩,⟨by have h:=HE.out;rw [HJ.out,if_pos (by unfold okE;rw [HF.out];rfl)] at h;rw [wrap_bt];exact h⟩,⟨sq_ HO_4⟩,⟨ro_ HO_5⟩,⟨bl_⟩⟩
            ·have f124b0 : (bt a0 J != 124) = true:=bne_iff_ne.mpr f124
             by_cases f92 : bt a0 J = 92
             ·have f92b0 : (bt a0 J != 92) = false:=bne_eq_false_iff_eq.mpr f92
              have HF:=am_ f92
              clear f92
              go_wp2_with (first|((with_reducible refine gate_builtin (b:=.append) (xs:=#[.tmp 79,.tmp 84]) rfl ?_);at_builtin;refine Kd.R_append (Kd.int .i64) (w0:=w) w.heap.size rfl (.tmp 79) (.tmp 84) 126 3 (.int .i64 0) 8 rfl Try.underlying126 i3 rfl (by decide) (by omega) (.slice Ao nw.length co) nw (wrap64 (bt a0 J)) [.int .i64 (wrap64 (bt a0 J))] (fun _ => True) (fun _ => False) rfl rfl ?aP (fun _ hk => hk.elim) ?aF ?aO ?aB ?aS ?aL ?_;(case aP => exact rfl);(case aB => exact bl_);(case aF => exact (fun _ _ => trivial));(case aO => exact (ro_ HO_5));(case aS => exact (below_size bl_));(case aL => have:=HL.out;omega);intro v90 w90 ho hb hg hat;have n0_:=am_ (move_apart (show Kd.S (Kd.slice 3 (Kd.int .i64)) 126 _ w.heap.size _ u4 o from sq_ HO_4) hg hat);have n1_:=am_ hb;have n2_:=am_ ho;clear HO_4 HO_5 HB;have HO_4:=n0_;have HB:=n1_;have HO_5:=n2_;clear n0_ n1_ n2_ ho hb hg hat))
              go_roundg (a0.size - (i + 2))
              case measure => have h1_:=HI.out;have h2_:=HL.out;have h3_:=HIL.out;omega
              case rel => exact ⟨o,nw ++ [wrap64 (bt a0 J)],i + 2,(by first|rfl|(have h1_:=HI.out;have h2_:=HL.out;have h3_:=HIL.out;have h4_:=HJ.out;have h5_:=HJL.out;congr 1;unfold wrap64;omega)),⟨by have h1_:=HI.out;have h2_:=HL.out;have h3_:=HIL.out;have h4_:=HJ.out;have h5_:=HJL.out;simp only [List.length_append,List.length_singleton,List.length_nil];omega⟩,⟨by have h:=HE.out;rw [HJ.out,if_pos (by unfold okE;rw [HF.out];rfl)] at h;rw [wrap_bt];exact h⟩,⟨sq_ HO_4⟩,⟨ro_ HO_5⟩,⟨bl_⟩⟩
             ·have f92b0 : (bt a0 J != 92) = true:=bne_iff_ne.mpr f92
              obtain ⟨rfl,rfl⟩ : r1 = [] ∧ r2 = false:=by have h:=HE.out;rw [HJ.out,if_neg (by unfold okE;rw [decide_eq_false f42,decide_eq_false f63,decide_eq_false f124,decide_eq_false f92];decide)] at h;simp only [Prod.mk.injEq] at h;exact ⟨h.1.symm,h.2.symm⟩
              clear f42 f63 f124 f92
              go_wp2
              go_ret2
              exact ⟨_,rf_,ni_,bl_⟩
        ·have c92b0 : (bt a0 I == 92) = false:=beq_eq_false_iff_ne.mpr d92
         have HN:=am_ (And.intro d124 (And.intro d42 (And.intro d63 d92)))
         clear d92 d124 d42 d63
         go_wp2_with (first|((with_reducible refine gate_builtin (b:=.append) (xs:=#[.tmp 24,.tmp 29]) rfl ?_);at_builtin;refine Kd.R_append (Kd.int .i64) (w0:=w) w.heap.size rfl (.tmp 24) (.tmp 29) 126 3 (.int .i64 0) 8 rfl Try.underlying126 i3 rfl (by decide) (by omega) (.slice Ao nw.length co) nw (wrap64 (bt a0 I)) [.int .i64 (wrap64 (bt a0 I))] (fun _ => True) (fun _ => False) rfl rfl ?aP (fun _ hk => hk.elim) ?aF ?aO ?aB ?aS ?aL ?_;(case aP => exact rfl);(case aB => exact bl_);(case aF => exact (fun _ _ => trivial));(case aO => exact (ro_ HO_5));(case aS => exact (below_size bl_));(case aL => have:=HL.out;omega);intro v90 w90 ho hb hg hat;have n0_:=am_ (move_apart (show Kd.S (Kd.slice 3 (Kd.int .i64)) 126 _ w.heap.size _ u4 o from sq_ HO_4) hg hat);have n1_:=am_ hb;have n2_:=am_ ho;clear HO_4 HO_5 HB;have HO_4:=n0_;have HB:=n1_;have HO_5:=n2_;clear n0_ n1_ n2_ ho hb hg hat))
         go_roundg (a0.size - (i + 1))
         case measure => have h1_:=HI.out;have h2_:=HL.out;have h3_:=HIL.out;omega
         case rel => exact ⟨o,nw ++ [wrap64 (bt a0 I)],i + 1,(by first|rfl|(have h1_:=HI.out;have h2_:=HL.out;have h3_:=HIL.out;congr 1;unfold wrap64;omega)),⟨by have h1_:=HI.out;have h2_:=HL.out;have h3_:=HIL.out;simp only [List.length_append,List.length_singleton,List.length_nil];omega⟩,⟨by rw [wrap_bt,← HI.out];exact (altA_on (by have h1_:=HI.out;have h3_:=HIL.out;omega) (by rw [HI.out];exact HN.out.1) (by rw [HI.out];exact HN.out.2.1) (by rw [HI.out];exact HN.out.2.2.1) (by rw [HI.out];exact HN.out.2.2.2)).symm.trans HA.out⟩,⟨sq_ HO_4⟩,⟨ro_ HO_5⟩,⟨bl_⟩⟩
    ·have c4b0 : decide (I < (a0.size : Int)) = false:=decide_eq_false c4
     obtain ⟨rfl,rfl⟩ : r1 = o ++ [nw] ∧ r2 = true:=by have h:=(altA_end (o:=o) (nw:=nw) (show ¬ i < a0.size by omega)).symm.trans HA.out;simp only [Prod.mk.injEq] at h;exact ⟨h.1.symm,h.2.symm⟩
     clear c4 hI
     go_wp2_with (first|((with_reducible refine gate_builtin (b:=.append) (xs:=#[.tmp 86,.tmp 88]) rfl ?_);at_builtin;refine Kd.S_append (Kd.slice 3 (Kd.int .i64)) (w0:=w) w.heap.size rfl (.tmp 86) (.tmp 88) 131 126 (.slice none 0 0) 24 rfl Try.underlying131 iS rfl (by decide) (by omega) u4 o nw [.slice Ao nw.length co] (fun _ => True) (fun k_ => some k_ = (.slice Ao nw.length co : Value).ownBlock) rfl rfl ?aP (fun k_ hk => ⟨trivial,fun he => (Kd.S_R HO_4.out).1 k_ he.symm hk⟩) ?aF ?aO ?aB ?aS ?aL ?_;(case aP => exact Kd.M_row (Kd.R_tight rfl (show Kd.R (Kd.int .i64) 3 _ w.heap.size (fun _ => True) (.slice Ao nw.length co) nw from ro_ HO_5)));(case aB => exact bl_);(case aF => exact (fun _ _ => trivial));(case aO => exact Kd.S_mono (show Kd.S (Kd.slice 3 (Kd.int .i64)) 126 _ w.heap.size _ u4 o from sq_ HO_4) (fun _ hk => ⟨trivial,hk⟩));(case aS => exact (below_size bl_));(case aL => have:=HL.out;omega);intro v90 w90 ho hb hg hat;have n1_:=am_ hb;have n2_:=am_ ho;clear HO_4 HO_5 HB;have HO_4:=n2_;have HB:=n1_;clear n1_ n2_ ho hb hg hat))
     go_ret2
     exact ⟨_,rf_,HO_4.out,bl_⟩
def spec_GoodPattern.f (k : Nat) (a0 : ByteArray) : Option (Bool):=(spec_l2Alternatives.f k a0).bind fun bt1001 => (some bt1001.2)
theorem spec_GoodPattern.mono : ∀ a0 k,LeO (spec_GoodPattern.f k a0) (spec_GoodPattern.f (k + 1) a0):=by
 intro a0 k
 unfold spec_GoodPattern.f
 repeat' with_reducible first|apply spec_l2Alternatives.mono|apply LeO.refl|apply LeO.none|apply LeO.ite|refine LeO.bind ?_ (fun _ => ?_)
theorem spec_GoodPattern.calls (k : Nat) (a0 : ByteArray) (r : Bool) (w : World) (h : spec_GoodPattern.f k a0 = some r) :
  Calls Try.prog 115 #[.string a0] w fun e w' => e = .returned (.bool r) ∧ Below w.heap.size w w':=by
 have HB:=am_ (Below.refl w.heap.size w);have H:=h;clear h;unfold spec_GoodPattern.f at H;replace H:=bs_ H;obtain ⟨⟨t1001,t1002⟩,A2,H⟩:=H;replace H : (some t1002) = some r:=H;obtain rfl:=si_ H;go_enter Try.func115,Try.ntmps115;go_wp2_with (first|((with_reducible refine gate_callee (f:=127) rfl ?_);refine gl_ 7 Try.func127 #[.string a0] ?_;(with_reducible refine (spec_l2Alternatives.calls k a0 t1001 t1002 _ A2.out).mono ?_);rintro e w3 ⟨v1003,rfl,ho0,hb⟩;refine ⟨_,rfl,?_⟩;have HO1004:=am_ (Kd.S_lower ho0 (below_size bl_));replace HB:=am_ (below_step bl_ hb);(try clear hb);(try clear ho0)));go_ret;exact ⟨rf_,bl_⟩
mutual
def spec_l4Filling.j0 : Nat → ByteArray → Bool → Option (Bool)
 | 0,_,_ => none
 | k + 1,x0,x11 => if x11 = true then (some false) else (spec_l4Filling.l0 k x0 0)
def spec_l4Filling.l0 : Nat → ByteArray → Int → Option (Bool)
 | 0,_,_ => none
 | k + 1,x0,x3 => if x3 < (x0.size : Int) then (if 0 ≤ x3 then (if (bt x0 x3) = 36 then (if (wrap64 (x3 + 1)) = (x0.size : Int) then (some false) else (if 0 ≤ (wrap64 (x3 + 1)) then (if (wrap64 (x3 + 1)) < (x0.size : Int) then (if (bt x0 (wrap64 (x3 + 1))) = 36 then (spec_l4Filling.l0 k x0 (wrap64 ((wrap64 (x3 + 1)) + 1))) else (if (bt x0 (wrap64 (x3 + 1))) < 49 then (some false) else (if (bt x0 (wrap64 (x3 + 1))) > 57 then (some false) else (spec_l4Filling.l0 k x0 (wrap64 ((wrap64 (x3 + 1)) + 1)))))) else (none)) else (none))) else (spec_l4Filling.l0 k x0 (wrap64 (x3 + 1)))) else (none)) else (some true)
end
def spec_l4Filling.f (k : Nat) (a0 : ByteArray) : Option (Bool):=if (a0.size : Int) > 100 then (spec_l4Filling.j0 k a0 true) else ((spec_l2Printed.f k a0).bind fun t1001 => (spec_l4Filling.j0 k a0 (!t1001)))
theorem spec_l4Filling.mono_l : ∀ k,(∀ y0 y1,LeO (spec_l4Filling.j0 k y0 y1) (spec_l4Filling.j0 (k + 1) y0 y1)) ∧ (∀ y0 y1,LeO (spec_l4Filling.l0 k y0 y1) (spec_l4Filling.l0 (k + 1) y0 y1))
 | 0 => ⟨fun _ _ r h => by simp [spec_l4Filling.j0] at h,fun _ _ r h => by simp [spec_l4Filling.l0] at h⟩
 | k + 1 => by
  obtain ⟨ih0,ih1⟩:=spec_l4Filling.mono_l k
  refine ⟨?_,?_⟩
  ·intro y0 y1
   unfold spec_l4Filling.j0
   repeat' with_reducible first|apply ih0|apply ih1|apply spec_l2Printed.mono|apply LeO.refl|apply LeO.none|apply LeO.ite|refine LeO.bind ?_ (fun _ => ?_)
  ·intro y0 y1
   unfold spec_l4Filling.l0
   repeat' with_reducible first|apply ih0|apply ih1|apply spec_l2Printed.mono|apply LeO.refl|apply LeO.none|apply LeO.ite|refine LeO.bind ?_ (fun _ => ?_)
theorem spec_l4Filling.mono : ∀ a0 k,LeO (spec_l4Filling.f k a0) (spec_l4Filling.f (k + 1) a0):=by
 intro a0 k
 obtain ⟨ih0,ih1⟩:=spec_l4Filling.mono_l k
 unfold spec_l4Filling.f
 repeat' with_reducible first|apply ih0|apply ih1|apply spec_l2Printed.mono|apply LeO.refl|apply LeO.none|apply LeO.ite|refine LeO.bind ?_ (fun _ => ?_)
theorem spec_l4Filling.calls (k : Nat) (a0 : ByteArray) (r : Bool) (w : World) (h : spec_l4Filling.f k a0 = some r) :
  Calls Try.prog 116 #[.string a0] w fun e w' => e = .returned (.bool r) ∧ Drawn0 w w':=by
 have H:=h;clear h;unfold spec_l4Filling.f at H;have HC2:=am_ H;clear H;go_enter Try.func116,Try.ntmps116;go_upto_region 1 with (fail)
 go_cut [11] (fun v11 wc => ∃ (kq : Nat) (x11_1 : Bool),v11 = .bool x11_1 ∧ Aside0 (spec_l4Filling.j0 kq a0 x11_1 = some r) ∧ Aside0 (kq ≤ k) ∧ Drawn0 w wc)
 case first =>
  have H:=HC2.out;clear HC2
  by_cases c3 : (a0.size : Int) > 100
  ·rw [if_pos c3] at H;have c3b0:=dg_ c3;have c3b1 : decide (100 < a0.size) = true:=decide_eq_true (by omega);clear c3;(first|rw [c3b0]|(simp only [i64_w,i32_w];rw [c3b0])|skip);have H':=am_ H;clear H;go_wp2;go_meet
   case rel => exact ⟨_,(true),rs_,H',⟨by first|omega|exact Nat.le_refl _⟩,by repeat (first|exact Drawn0.refl _|apply Drawn0.step)⟩
  ·rw [if_neg c3] at H;have c3b0:=df_ c3;have c3b1 : decide (100 < a0.size) = false:=decide_eq_false (by omega);clear c3;(first|rw [c3b0]|(simp only [i64_w,i32_w];rw [c3b0])|skip);replace H:=bs_ H;obtain ⟨t1001,A4,H⟩:=H;have H':=am_ H;clear H;go_wp2_with (first|(go_at_call 89;(with_reducible refine (spec_l2Printed.calls k a0 t1001 _ A4.out).mono ?_);rintro e w' ⟨rfl,⟨nd,rfl⟩⟩));go_meet
   case rel => exact ⟨_,(!t1001),rs_,H',⟨by first|omega|exact Nat.le_refl _⟩,by repeat (first|exact Drawn0.refl _|apply Drawn0.step)⟩
 case rest =>
  clear HC2;obtain ⟨kq,x11_1,rfl,HA,HJ1,⟨mc1,rfl⟩⟩:=hcut
  cases kq with
  | zero => exact absurd HA.out (by simp [spec_l4Filling.j0])
  | succ kj1 =>
   have H:=HA.out;clear HA;simp only [spec_l4Filling.j0] at H
   by_cases c5 : x11_1 = true
   ·subst c5;replace H:=it_ H;obtain rfl:=si_ H;go_wp2;go_ret;exact ⟨by first|rfl|(simp;done)|(simp [*];done),by repeat (first|exact Drawn0.refl _|apply Drawn0.step)⟩
   ·replace c5:=Bool.eq_false_iff.mpr c5;subst c5;replace H:=if_ H;have H':=am_ H;clear H;go_wp2
    go_loopg [3] kj1 (fun kq v3 w' => ∃ (x3_2 : Int),v3 = .int .i64 x3_2 ∧ Aside0 (spec_l4Filling.l0 kq a0 x3_2 = some r) ∧ Aside0 (kq ≤ kj1) ∧ Drawn0 w w')
    case atStart => exact ⟨(0),rs_,H',⟨Nat.le_refl _⟩,by repeat (first|exact Drawn0.refl _|apply Drawn0.step)⟩
    case round =>
     clear H';(try clear c5);obtain ⟨x3_2,rfl,HA,HK2,⟨m2,rfl⟩⟩:=hrel
     cases gk with
     | zero => exact absurd HA.out (by simp [spec_l4Filling.l0])
     | succ k2 =>
      have H:=HA.out;clear HA;simp only [spec_l4Filling.l0] at H
      by_cases c6 : x3_2 < (a0.size : Int)
      ·rw [if_pos c6] at H;have c6b0:=decide_eq_true c6;clear c6;replace H:=is_ H;obtain ⟨c7,H⟩:=H;have c7b0:=decide_eq_true c7;clear c7
       by_cases c9 : (bt a0 x3_2) = 36
       ·rw [if_pos c9] at H;have c9b0:=eb_ c9;have c9b1:=en_ c9;clear c9
        by_cases c10 : (wrap64 (x3_2 + 1)) = (a0.size : Int)
        ·rw [if_pos c10] at H;have c10b0:=eb_ c10;have c10b1:=en_ c10;clear c10;obtain rfl:=si_ H;have p8 : 0 ≤ (x3_2 : Int):=od_;have q8 : x3_2 < (a0.size : Int):=od_;have hx8:=bt_at a0 x3_2;replace p8:=eq_true p8;replace q8:=eq_true q8;go_wp2;go_ret;exact ⟨by first|rfl|(simp;done)|(simp [*];done),by repeat (first|exact Drawn0.refl _|apply Drawn0.step)⟩
        ·rw [if_neg c10] at H;have c10b0:=nb_ c10;have c10b1:=nn_ c10;obtain ⟨ji11,hji11⟩ : ∃ j_ : Int,(wrap64 (x3_2 + 1)) = j_:=⟨_,rfl⟩;replace H : (if 0 ≤ (ji11) then (if (ji11) < (a0.size : Int) then (if (bt a0 (ji11)) = 36 then (spec_l4Filling.l0 k2 a0 (wrap64 ((ji11) + 1))) else (if (bt a0 (ji11)) < 49 then (some false) else (if (bt a0 (ji11)) > 57 then (some false) else (spec_l4Filling.l0 k2 a0 (wrap64 ((ji11) + 1)))))) else (none)) else (none)) = some r:=by first|(rw [hji11] at H;exact H)|(simp only [hji11] at H ⊢;exact H)
         (try rw [hji11] at c10b0);(try rw [hji11] at c10b1);have hji11w : (IntKind.i64.wrap (x3_2 + 1)) = ji11:=(i64_w _).trans hji11;replace H:=is_ H;obtain ⟨c12,H⟩:=H;have c12b0:=decide_eq_true c12;clear c12;replace H:=is_ H;obtain ⟨c13,H⟩:=H;have c13b0:=decide_eq_true c13;clear c13
         by_cases c15 : (bt a0 (ji11)) = 36
         ·rw [if_pos c15] at H;have c15b0:=eb_ c15;have c15b1:=en_ c15;clear c15;have H':=am_ H;clear H;have p8 : 0 ≤ (x3_2 : Int):=od_;have q8 : x3_2 < (a0.size : Int):=od_;have hx8:=bt_at a0 x3_2;replace p8:=eq_true p8;replace q8:=eq_true q8;have p14 : 0 ≤ ((ji11) : Int):=od_;have q14 : (ji11) < (a0.size : Int):=od_;have hx14:=bt_at a0 (ji11);replace p14:=eq_true p14;replace q14:=eq_true q14;go_wp2;go_roundg k2
          case measure => have:=HJ1.out;have:=HK2.out;omega
          case rel => exact ⟨(wrap64 ((ji11) + 1)),(by first|rfl|(simp;done)|(simp only [← hji11] <;> (first|rfl|simp))|(simp [*];done)),(by first|exact H'|(simp only [hji11];exact H')|(rw [hji11];exact H')),⟨by have:=HJ1.out;have:=HK2.out;omega⟩,by repeat (first|exact Drawn0.refl _|apply Drawn0.step)⟩
         ·rw [if_neg c15] at H;have c15b0:=nb_ c15;have c15b1:=nn_ c15
          by_cases c17 : (bt a0 (ji11)) < 49
          ·rw [if_pos c17] at H;have c17b0:=decide_eq_true c17;clear c17;obtain rfl:=si_ H;have p8 : 0 ≤ (x3_2 : Int):=od_;have q8 : x3_2 < (a0.size : Int):=od_;have hx8:=bt_at a0 x3_2;replace p8:=eq_true p8;replace q8:=eq_true q8;have p14 : 0 ≤ ((ji11) : Int):=od_;have q14 : (ji11) < (a0.size : Int):=od_;have hx14:=bt_at a0 (ji11);replace p14:=eq_true p14;replace q14:=eq_true q14;have p16 : 0 ≤ ((ji11) : Int):=od_;have q16 : (ji11) < (a0.size : Int):=od_;have hx16:=bt_at a0 (ji11);replace p16:=eq_true p16;replace q16:=eq_true q16;go_wp2;go_ret;exact ⟨by first|rfl|(simp;done)|(simp only [← hji11] <;> (first|rfl|simp))|(simp [*];done),by repeat (first|exact Drawn0.refl _|apply Drawn0.step)⟩
          ·rw [if_neg c17] at H;have c17b0:=decide_eq_false c17;clear c17
           by_cases c19 : (bt a0 (ji11)) > 57
           ·rw [if_pos c19] at H;have c19b0:=dg_ c19;clear c19;obtain rfl:=si_ H;have p8 : 0 ≤ (x3_2 : Int):=od_;have q8 : x3_2 < (a0.size : Int):=od_;have hx8:=bt_at a0 x3_2;replace p8:=eq_true p8;replace q8:=eq_true q8;have p14 : 0 ≤ ((ji11) : Int):=od_;have q14 : (ji11) < (a0.size : Int):=od_;have hx14:=bt_at a0 (ji11);replace p14:=eq_true p14;replace q14:=eq_true q14;have p16 : 0 ≤ ((ji11) : Int):=od_;have q16 : (ji11) < (a0.size : Int):=od_;have hx16:=bt_at a0 (ji11);replace p16:=eq_true p16;replace q16:=eq_true q16;have p18 : 0 ≤ ((ji11) : Int):=od_;have q18 : (ji11) < (a0.size : Int):=od_;have hx18:=bt_at a0 (ji11);replace p18:=eq_true p18;replace q18:=eq_true q18;go_wp2;go_ret;exact ⟨by first|rfl|(simp;done)|(simp only [← hji11] <;> (first|rfl|simp))|(simp [*];done),by repeat (first|exact Drawn0.refl _|apply Drawn0.step)⟩
           ·rw [if_neg c19] at H;have c19b0:=df_ c19;clear c19;have H':=am_ H;clear H;have p8 : 0 ≤ (x3_2 : Int):=od_;have q8 : x3_2 < (a0.size : Int):=od_;have hx8:=bt_at a0 x3_2;replace p8:=eq_true p8;replace q8:=eq_true q8;have p14 : 0 ≤ ((ji11) : Int):=od_;have q14 : (ji11) < (a0.size : Int):=od_;have hx14:=bt_at a0 (ji11);replace p14:=eq_true p14;replace q14:=eq_true q14;have p16 : 0 ≤ ((ji11) : Int):=od_;have q16 : (ji11) < (a0.size : Int):=od_;have hx16:=bt_at a0 (ji11);replace p16:=eq_true p16;replace q16:=eq_true q16;have p18 : 0 ≤ ((ji11) : Int):=od_;have q18 : (ji11) < (a0.size : Int):=od_;have hx18:=bt_at a0 (ji11);replace p18:=eq_true p18;replace q18:=eq_true q18;go_wp2;go_roundg k2
            case measure => have:=HJ1.out;have:=HK2.out;omega
            case rel => exact ⟨(wrap64 ((ji11) + 1)),(by first|rfl|(simp;done)|(simp only [← hji11] <;> (first|rfl|simp))|(simp [*];done)),(by first|exact H'|(simp only [hji11];exact H')|(rw [hji11];exact H')),⟨by have:=HJ1.out;have:=HK2.out;omega⟩,by repeat (first|exact Drawn0.refl _|apply Drawn0.step)⟩
       ·rw [if_neg c9] at H;have c9b0:=nb_ c9;have c9b1:=nn_ c9;have H':=am_ H;clear H;have p8 : 0 ≤ (x3_2 : Int):=od_;have q8 : x3_2 < (a0.size : Int):=od_;have hx8:=bt_at a0 x3_2;replace p8:=eq_true p8;replace q8:=eq_true q8;go_wp2;go_roundg k2
        case measure => have:=HJ1.out;have:=HK2.out;omega
        case rel => exact ⟨(wrap64 (x3_2 + 1)),rs_,H',⟨by have:=HJ1.out;have:=HK2.out;omega⟩,by repeat (first|exact Drawn0.refl _|apply Drawn0.step)⟩
      ·rw [if_neg c6] at H;have c6b0:=decide_eq_false c6;clear c6;obtain rfl:=si_ H;go_wp2;go_ret;exact ⟨by first|rfl|(simp;done)|(simp [*];done),by repeat (first|exact Drawn0.refl _|apply Drawn0.step)⟩
mutual
def spec_GoodRelabel.j0 : Nat → Bool → Int → List ByteArray → ByteArray → ByteArray → ByteArray → ByteArray → Int → Option (Bool)
 | 0,_,_,_,_,_,_,_,_ => none
 | k + 1,x38,x1002000,x1002001,x1002002,x1002003,x1002004,x1002005,x1002006 => if x38 = true then (some false) else (spec_GoodRelabel.l0 k x1002001 (x1002001.length : Int) 0 x1002000 x1002001 x1002002 x1002003 x1002004 x1002005 x1002006)
def spec_GoodRelabel.l0 : Nat → List ByteArray → Int → Int → Int → List ByteArray → ByteArray → ByteArray → ByteArray → ByteArray → Int → Option (Bool)
 | 0,_,_,_,_,_,_,_,_,_,_ => none
 | k + 1,x40,x41,x42,x1002000,x1002001,x1002002,x1002003,x1002004,x1002005,x1002006 => if x42 < x41 then (if 0 ≤ x42 then (if x42 < (x40.length : Int) then ((spec_l2Name.f k (rdOf ByteArray.empty x40 x42)).bind fun t1005 => (if t1005 = true then (spec_GoodRelabel.l0 k x40 x41 (wrap64 (x42 + 1)) x1002000 x1002001 x1002002 x1002003 x1002004 x1002005 x1002006) else (some false))) else (none)) else (none)) else (if x1002000 = 5 then (spec_GoodRelabel.j2 k true x1002000 x1002001 x1002002 x1002003 x1002004 x1002005 x1002006) else (if x1002000 = 6 then (spec_GoodRelabel.j2 k true x1002000 x1002001 x1002002 x1002003 x1002004 x1002005 x1002006) else (spec_GoodRelabel.j2 k (x1002000 == 7) x1002000 x1002001 x1002002 x1002003 x1002004 x1002005 x1002006)))
def spec_GoodRelabel.j2 : Nat → Bool → Int → List ByteArray → ByteArray → ByteArray → ByteArray → ByteArray → Int → Option (Bool)
 | 0,_,_,_,_,_,_,_,_ => none
 | k + 1,x5,x1002000,x1002001,x1002002,x1002003,x1002004,x1002005,x1002006 => if x5 = true then (if (x1002001.length : Int) > 0 then (spec_GoodRelabel.j3 k true x1002000 x1002001 x1002002 x1002003 x1002004 x1002005 x1002006) else (spec_GoodRelabel.j3 k (x1002002.toList != ([] : List UInt8)) x1002000 x1002001 x1002002 x1002003 x1002004 x1002005 x1002006)) else (spec_GoodRelabel.j3 k false x1002000 x1002001 x1002002 x1002003 x1002004 x1002005 x1002006)
def spec_GoodRelabel.j3 : Nat → Bool → Int → List ByteArray → ByteArray → ByteArray → ByteArray → ByteArray → Int → Option (Bool)
 | 0,_,_,_,_,_,_,_,_ => none
 | k + 1,x74,x1002000,x1002001,x1002002,x1002003,x1002004,x1002005,x1002006 => if x74 = true then (some false) else (if x1002000 = 4 then (spec_GoodRelabel.j4 k true x1002000 x1002001 x1002002 x1002003 x1002004 x1002005 x1002006) else (spec_GoodRelabel.j4 k (x1002000 == 8) x1002000 x1002001 x1002002 x1002003 x1002004 x1002005 x1002006))
def spec_GoodRelabel.j4 : Nat → Bool → Int → List ByteArray → ByteArray → ByteArray → ByteArray → ByteArray → Int → Option (Bool)
 | 0,_,_,_,_,_,_,_,_ => none
 | k + 1,x6,x1002000,x1002001,x1002002,x1002003,x1002004,x1002005,x1002006 => if x6 = true then (spec_GoodRelabel.j5 k x6 (x1002003.toList != ([] : List UInt8)) x1002000 x1002001 x1002002 x1002003 x1002004 x1002005 x1002006) else (spec_GoodRelabel.j5 k x6 false x1002000 x1002001 x1002002 x1002003 x1002004 x1002005 x1002006)
def spec_GoodRelabel.j5 : Nat → Bool → Bool → Int → List ByteArray → ByteArray → ByteArray → ByteArray → ByteArray → Int → Option (Bool)
 | 0,_,_,_,_,_,_,_,_,_ => none
 | k + 1,x6,x88,x1002000,x1002001,x1002002,x1002003,x1002004,x1002005,x1002006 => if x88 = true then (some false) else (if x6 = true then (spec_GoodRelabel.j6 k true x1002000 x1002001 x1002002 x1002003 x1002004 x1002005 x1002006) else (spec_GoodRelabel.j6 k (x1002000 == 3) x1002000 x1002001 x1002002 x1002003 x1002004 x1002005 x1002006))
def spec_GoodRelabel.j6 : Nat → Bool → Int → List ByteArray → ByteArray → ByteArray → ByteArray → ByteArray → Int → Option (Bool)
 | 0,_,_,_,_,_,_,_,_ => none
 | k + 1,x94,x1002000,x1002001,x1002002,x1002003,x1002004,x1002005,x1002006 => if x94 = true then ((spec_l2Name.f k x1002004).bind fun t1006 => (if t1006 = true then (spec_GoodRelabel.j7 k x1002000 x1002001 x1002002 x1002003 x1002004 x1002005 x1002006) else (some false))) else (if x1002004.toList = ([] : List UInt8) then (spec_GoodRelabel.j7 k x1002000 x1002001 x1002002 x1002003 x1002004 x1002005 x1002006) else (some false))
def spec_GoodRelabel.j7 : Nat → Int → List ByteArray → ByteArray → ByteArray → ByteArray → ByteArray → Int → Option (Bool)
 | 0,_,_,_,_,_,_,_ => none
 | k + 1,x1002000,x1002001,x1002002,x1002003,x1002004,x1002005,x1002006 => if x1002000 = 3 then (spec_GoodRelabel.j8 k true x1002000 x1002001 x1002002 x1002003 x1002004 x1002005 x1002006) else (spec_GoodRelabel.j8 k (x1002000 == 5) x1002000 x1002001 x1002002 x1002003 x1002004 x1002005 x1002006)
def spec_GoodRelabel.j8 : Nat → Bool → Int → List ByteArray → ByteArray → ByteArray → ByteArray → ByteArray → Int → Option (Bool)
 | 0,_,_,_,_,_,_,_,_ => none
 | k + 1,x109,x1002000,x1002001,x1002002,x1002003,x1002004,x1002005,x1002006 => if x109 = true then ((spec_l4Filling.f k x1002005).bind fun t1007 => (if t1007 = true then (if x1002000 = 4 then (if x1002006 ≥ 1 then (some (decide (x1002006 ≤ 1000))) else (some false)) else (some (x1002006 == 0))) else (some false))) else (if x1002005.toList = ([] : List UInt8) then (if x1002000 = 4 then (if x1002006 ≥ 1 then (some (decide (x1002006 ≤ 1000))) else (some false)) else (some (x1002006 == 0))) else (some false))
end
def spec_GoodRelabel.f (k : Nat) (a0_0 : Int) (l0_1 : List ByteArray) (a0_2 : ByteArray) (a0_3 : ByteArray) (a0_4 : ByteArray) (a0_5 : ByteArray) (a0_6 : Int) : Option (Bool):=if a0_0 < 1 then (spec_GoodRelabel.j0 k true a0_0 l0_1 a0_2 a0_3 a0_4 a0_5 a0_6) else (if a0_0 > 8 then (spec_GoodRelabel.j0 k true a0_0 l0_1 a0_2 a0_3 a0_4 a0_5 a0_6) else (if (l0_1.length : Int) > 10 then (spec_GoodRelabel.j0 k true a0_0 l0_1 a0_2 a0_3 a0_4 a0_5 a0_6) else (if (a0_2.size : Int) > 10 then (spec_GoodRelabel.j0 k true a0_0 l0_1 a0_2 a0_3 a0_4 a0_5 a0_6) else ((spec_l2Printed.f k a0_2).bind fun t1002 => (if t1002 = true then ((spec_GoodPattern.f k a0_3).bind fun t1003 => (spec_GoodRelabel.j0 k (!t1003) a0_0 l0_1 a0_2 a0_3 a0_4 a0_5 a0_6)) else (spec_GoodRelabel.j0 k true a0_0 l0_1 a0_2 a0_3 a0_4 a0_5 a0_6))))))
theorem spec_GoodRelabel.mono_l : ∀ k,(∀ y0 y1 y2 y3 y4 y5 y6 y7,LeO (spec_GoodRelabel.j0 k y0 y1 y2 y3 y4 y5 y6 y7) (spec_GoodRelabel.j0 (k + 1) y0 y1 y2 y3 y4 y5 y6 y7)) ∧ (∀ y0 y1 y2 y3 y4 y5 y6 y7 y8 y9,LeO (spec_GoodRelabel.l0 k y0 y1 y2 y3 y4 y5 y6 y7 y8 y9) (spec_GoodRelabel.l0 (k + 1) y0 y1 y2 y3 y4 y5 y6 y7 y8 y9)) ∧ (∀ y0 y1 y2 y3 y4 y5 y6 y7,LeO (spec_GoodRelabel.j2 k y0 y1 y2 y3 y4 y5 y6 y7) (spec_GoodRelabel.j2 (k + 1) y0 y1 y2 y3 y4 y5 y6 y7)) ∧ (∀ y0 y1 y2 y3 y4 y5 y6 y7,LeO (spec_GoodRelabel.j3 k y0 y1 y2 y3 y4 y5 y6 y7) (spec_GoodRelabel.j3 (k + 1) y0 y1 y2 y3 y4 y5 y6 y7)) ∧ (∀ y0 y1 y2 y3 y4 y5 y6 y7,LeO (spec_GoodRelabel.j4 k y0 y1 y2 y3 y4 y5 y6 y7) (spec_GoodRelabel.j4 (k + 1) y0 y1 y2 y3 y4 y5 y6 y7)) ∧ (∀ y0 y1 y2 y3 y4 y5 y6 y7 y8,LeO (spec_GoodRelabel.j5 k y0 y1 y2 y3 y4 y5 y6 y7 y8) (spec_GoodRelabel.j5 (k + 1) y0 y1 y2 y3 y4 y5 y6 y7 y8)) ∧ (∀ y0 y1 y2 y3 y4 y5 y6 y7,LeO (spec_GoodRelabel.j6 k y0 y1 y2 y3 y4 y5 y6 y7) (spec_GoodRelabel.j6 (k + 1) y0 y1 y2 y3 y4 y5 y6 y7)) ∧ (∀ y0 y1 y2 y3 y4 y5 y6,LeO (spec_GoodRelabel.j7 k y0 y1 y2 y3 y4 y5 y6) (spec_GoodRelabel.j7 (k + 1) y0 y1 y2 y3 y4 y5 y6)) ∧ (∀ y0 y1 y2 y3 y4 y5 y6 y7,LeO (spec_GoodRelabel.j8 k y0 y1 y2 y3 y4 y5 y6 y7) (spec_GoodRelabel.j8 (k + 1) y0 y1 y2 y3 y4 y5 y6 y7))
 | 0 => ⟨fun _ _ _ _ _ _ _ _ r h => by simp [spec_GoodRelabel.j0] at h,fun _ _ _ _ _ _ _ _ _ _ r h => by simp [spec_GoodRelabel.l0] at h,fun _ _ _ _ _ _ _ _ r h => by simp [spec_GoodRelabel.j2] at h,fun _ _ _ _ _ _ _ _ r h => by simp [spec_GoodRelabel.j3] at h,fun _ _ _ _ _ _ _ _ r h => by simp [spec_GoodRelabel.j4] at h,fun _ _ _ _ _ _ _ _ _ r h => by simp [spec_GoodRelabel.j5] at h,fun _ _ _ _ _ _ _ _ r h => by simp [spec_GoodRelabel.j6] at h,fun _ _ _ _ _ _ _ r h => by simp [spec_GoodRelabel.j7] at h,fun _ _ _ _ _ _ _ _ r h => by simp [spec_GoodRelabel.j8] at h⟩
 | k + 1 => by
  obtain ⟨ih0,ih1,ih2,ih3,ih4,ih5,ih6,ih7,ih8⟩:=spec_GoodRelabel.mono_l k
  refine ⟨?_,?_,?_,?_,?_,?_,?_,?_,?_⟩
  ·intro y0 y1 y2 y3 y4 y5 y6 y7
   unfold spec_GoodRelabel.j0
   repeat' with_reducible first|apply ih0|apply ih1|apply ih2|apply ih3|apply ih4|apply ih5|apply ih6|apply ih7|apply ih8|apply spec_GoodPattern.mono|apply spec_l2Name.mono|apply spec_l2Printed.mono|apply spec_l4Filling.mono|apply LeO.refl|apply LeO.none|apply LeO.ite|refine LeO.bind ?_ (fun _ => ?_)
  ·intro y0 y1 y2 y3 y4 y5 y6 y7 y8 y9
   unfold spec_GoodRelabel.l0
   repeat' with_reducible first|apply ih0|apply ih1|apply ih2|apply ih3|apply ih4|apply ih5|apply ih6|apply ih7|apply ih8|apply spec_GoodPattern.mono|apply spec_l2Name.mono|apply spec_l2Printed.mono|apply spec_l4Filling.mono|apply LeO.refl|apply LeO.none|apply LeO.ite|refine LeO.bind ?_ (fun _ => ?_)
  ·intro y0 y1 y2 y3 y4 y5 y6 y7
   unfold spec_GoodRelabel.j2
   repeat' with_reducible first|apply ih0|apply ih1|apply ih2|apply ih3|apply ih4|apply ih5|apply ih6|apply ih7|apply ih8|apply spec_GoodPattern.mono|apply spec_l2Name.mono|apply spec_l2Printed.mono|apply spec_l4Filling.mono|apply LeO.refl|apply LeO.none|apply LeO.ite|refine LeO.bind ?_ (fun _ => ?_)
  ·intro y0 y1 y2 y3 y4 y5 y6 y7
   unfold spec_GoodRelabel.j3
   repeat' with_reducible first|apply ih0|apply ih1|apply ih2|apply ih3|apply ih4|apply ih5|apply ih6|apply ih7|apply ih8|apply spec_GoodPattern.mono|apply spec_l2Name.mono|apply spec_l2Printed.mono|apply spec_l4Filling.mono|apply LeO.refl|apply LeO.none|apply LeO.ite|refine LeO.bind ?_ (fun _ => ?_)
  ·intro y0 y1 y2 y3 y4 y5 y6 y7
   unfold spec_GoodRelabel.j4
   repeat' with_reducible first|apply ih0|apply ih1|apply ih2|apply ih3|apply ih4|apply ih5|apply ih6|apply ih7|apply ih8|apply spec_GoodPattern.mono|apply spec_l2Name.mono|apply spec_l2Printed.mono|apply spec_l4Filling.mono|apply LeO.refl|apply LeO.none|apply LeO.ite|refine LeO.bind ?_ (fun _ => ?_)
  ·intro y0 y1 y2 y3 y4 y5 y6 y7 y8
   unfold spec_GoodRelabel.j5
   repeat' with_reducible first|apply ih0|apply ih1|apply ih2|apply ih3|apply ih4|apply ih5|apply ih6|apply ih7|apply ih8|apply spec_GoodPattern.mono|apply spec_l2Name.mono|apply spec_l2Printed.mono|apply spec_l4Filling.mono|apply LeO.refl|apply LeO.none|apply LeO.ite|refine LeO.bind ?_ (fun _ => ?_)
  ·intro y0 y1 y2 y3 y4 y5 y6 y7
   unfold spec_GoodRelabel.j6
   repeat' with_reducible first|apply ih0|apply ih1|apply ih2|apply ih3|apply ih4|apply ih5|apply ih6|apply ih7|apply ih8|apply spec_GoodPattern.mono|apply spec_l2Name.mono|apply spec_l2Printed.mono|apply spec_l4Filling.mono|apply LeO.refl|apply LeO.none|apply LeO.ite|refine LeO.bind ?_ (fun _ => ?_)
  ·intro y0 y1 y2 y3 y4 y5 y6
   unfold spec_GoodRelabel.j7
   repeat' with_reducible first|apply ih0|apply ih1|apply ih2|apply ih3|apply ih4|apply ih5|apply ih6|apply ih7|apply ih8|apply spec_GoodPattern.mono|apply spec_l2Name.mono|apply spec_l2Printed.mono|apply spec_l4Filling.mono|apply LeO.refl|apply LeO.none|apply LeO.ite|refine LeO.bind ?_ (fun _ => ?_)
  ·intro y0 y1 y2 y3 y4 y5 y6 y7
   unfold spec_GoodRelabel.j8
   repeat' with_reducible first|apply ih0|apply ih1|apply ih2|apply ih3|apply ih4|apply ih5|apply ih6|apply ih7|apply ih8|apply spec_GoodPattern.mono|apply spec_l2Name.mono|apply spec_l2Printed.mono|apply spec_l4Filling.mono|apply LeO.refl|apply LeO.none|apply LeO.ite|refine LeO.bind ?_ (fun _ => ?_)
theorem spec_GoodRelabel.mono : ∀ a0 a1 a2 a3 a4 a5 a6 k,LeO (spec_GoodRelabel.f k a0 a1 a2 a3 a4 a5 a6) (spec_GoodRelabel.f (k + 1) a0 a1 a2 a3 a4 a5 a6):=by
 intro a0 a1 a2 a3 a4 a5 a6 k
 obtain ⟨ih0,ih1,ih2,ih3,ih4,ih5,ih6,ih7,ih8⟩:=spec_GoodRelabel.mono_l k
 unfold spec_GoodRelabel.f
 repeat' with_reducible first|apply ih0|apply ih1|apply ih2|apply ih3|apply ih4|apply ih5|apply ih6|apply ih7|apply ih8|apply spec_GoodPattern.mono|apply spec_l2Name.mono|apply spec_l2Printed.mono|apply spec_l4Filling.mono|apply LeO.refl|apply LeO.none|apply LeO.ite|refine LeO.bind ?_ (fun _ => ?_)
theorem spec_GoodRelabel.calls (k : Nat) (a0_0 : Int) (A0_1 : Option Addr) (c0_1 : Nat) (l0_1 : List ByteArray) (a0_2 : ByteArray) (a0_3 : ByteArray) (a0_4 : ByteArray) (a0_5 : ByteArray) (a0_6 : Int) (r : Bool) (w : World) (hr0_1 : Kd.C Kd.string w A0_1 l0_1.length l0_1) (hc0_1 : l0_1.length ≤ c0_1) (h : spec_GoodRelabel.f k a0_0 l0_1 a0_2 a0_3 a0_4 a0_5 a0_6 = some r) :
  Calls Try.prog 86 #[.agg #[.int .i64 a0_0,.slice A0_1 l0_1.length c0_1,.string a0_2,.string a0_3,.string a0_4,.string a0_5,.int .i64 a0_6]] w fun e w' => e = .returned (.bool r) ∧ Below w.heap.size w w':=by
 have hu82:=Try.underlying82;have HR0_1:=am_ hr0_1;have HC0_1:=am_ hc0_1;clear hr0_1 hc0_1;have HB:=am_ (Below.refl w.heap.size w);have H:=h;clear h;unfold spec_GoodRelabel.f at H;have HC2:=am_ H;clear H;go_enter Try.func86,Try.ntmps86;go_upto_region 1 with (first|((with_reducible refine gate_dst (N:=1) rfl ?_);(try (refine gate_guard (by rfl) ?_;dsimp only));refine bx_ 1 #[.int .i64 a0_0,.slice A0_1 l0_1.length c0_1,.string a0_2,.string a0_3,.string a0_4,.string a0_5,.int .i64 a0_6] 82 ?_;intro gb1001 hg w3 hbox hb;have BK1001:=am_ (hbox);have GW1001:=am_ (gs_ hg : w.heap.size ≤ gb1001);replace HB:=am_ (below_step bl_ hb);have GE1001:=GW1001;clear hb hbox hg));(try simp only [Act.put,List.setIfInBounds_toArray,List.set_cons_zero,List.set_cons_succ])
 go_cut [38] (fun v38 wc => ∃ (kq : Nat) (x38_1 : Bool),v38 = .bool x38_1 ∧ Aside0 (spec_GoodRelabel.j0 kq x38_1 a0_0 l0_1 a0_2 a0_3 a0_4 a0_5 a0_6 = some r) ∧ Aside0 (kq ≤ k) ∧ Aside0 (wc.heap[gb1001]? = some (.cells #[.int .i64 a0_0,(.slice A0_1 l0_1.length c0_1),.string a0_2,.string a0_3,.string a0_4,.string a0_5,.int .i64 a0_6] 82 (0,0))) ∧ Aside0 (Below w.heap.size w wc))
 case first =>
  have H:=HC2.out;clear HC2
  by_cases c4 : a0_0 < 1
  ·rw [if_pos c4] at H;have c4b0:=decide_eq_true c4;clear c4;(first|rw [c4b0]|(simp only [i64_w,i32_w];rw [c4b0])|skip);have H':=am_ H;clear H;have hz5:=bk7_ BK1001;go_wp2;go_meet
   case rel => exact ⟨_,(true),rs_,H',⟨by first|omega|exact Nat.le_refl _⟩,⟨vk_ BK1001⟩,⟨bg_⟩⟩
  ·rw [if_neg c4] at H;have c4b0:=decide_eq_false c4;clear c4;(first|rw [c4b0]|(simp only [i64_w,i32_w];rw [c4b0])|skip)
   by_cases c6 : a0_0 > 8
   ·rw [if_pos c6] at H;have c6b0:=dg_ c6;clear c6;have H':=am_ H;clear H;have hz7:=bk7_ BK1001;go_wp2;go_meet
    case rel => exact ⟨_,(true),rs_,H',⟨by first|omega|exact Nat.le_refl _⟩,⟨vk_ BK1001⟩,⟨bg_⟩⟩
   ·rw [if_neg c6] at H;have c6b0:=df_ c6;clear c6
    by_cases c8 : (l0_1.length : Int) > 10
    ·rw [if_pos c8] at H;have c8b0:=dg_ c8;have c8b1 : decide (10 < l0_1.length) = true:=decide_eq_true (by omega);clear c8;have H':=am_ H;clear H;have hz9:=bk7_ BK1001;go_wp2;go_meet
     case rel => exact ⟨_,(true),rs_,H',⟨by first|omega|exact Nat.le_refl _⟩,⟨vk_ BK1001⟩,⟨bg_⟩⟩
    ·rw [if_neg c8] at H;have c8b0:=df_ c8;have c8b1 : decide (10 < l0_1.length) = false:=decide_eq_false (by omega);clear c8
     by_cases c10 : (a0_2.size : Int) > 10
     ·rw [if_pos c10] at H;have c10b0:=dg_ c10;have c10b1 : decide (10 < a0_2.size) = true:=decide_eq_true (by omega);clear c10;have H':=am_ H;clear H;have hz11:=bk7_ BK1001;go_wp2;go_meet
      case rel => exact ⟨_,(true),rs_,H',⟨by first|omega|exact Nat.le_refl _⟩,⟨vk_ BK1001⟩,⟨bg_⟩⟩
     ·rw [if_neg c10] at H;have c10b0:=df_ c10;have c10b1 : decide (10 < a0_2.size) = false:=decide_eq_false (by omega);clear c10;replace H:=bs_ H;obtain ⟨t1002,A12,H⟩:=H
      by_cases c13 : t1002 = true
      ·subst c13;replace H:=it_ H;replace H:=bs_ H;obtain ⟨t1003,A14,H⟩:=H;have H':=am_ H;clear H;have hz15:=bk7_ BK1001;go_wp2_with (first|(go_at_call 89;(with_reducible refine (spec_l2Printed.calls k a0_2 true _ A12.out).mono ?_);rintro e w' ⟨rfl,⟨nd,rfl⟩⟩)|(go_at_call 115;(with_reducible refine (spec_GoodPattern.calls k a0_3 t1003 _ A14.out).mono ?_);rintro e w16 ⟨rfl,hb⟩;replace BK1001:=vb_ BK1001 hb;replace HB:=am_ (below_step bg_ hb);(try clear hb)));go_meet
       case rel => exact ⟨_,(!t1003),rs_,H',⟨by first|omega|exact Nat.le_refl _⟩,⟨vk_ BK1001⟩,⟨bg_⟩⟩
      ·replace c13:=Bool.eq_false_iff.mpr c13;subst c13;replace H:=if_ H;have H':=am_ H;clear H;have hz17:=bk7_ BK1001;go_wp2_with (first|(go_at_call 89;(with_reducible refine (spec_l2Printed.calls k a0_2 false _ A12.out).mono ?_);rintro e w' ⟨rfl,⟨nd,rfl⟩⟩));go_meet
       case rel => exact ⟨_,(true),rs_,H',⟨by first|omega|exact Nat.le_refl _⟩,⟨vk_ BK1001⟩,⟨bg_⟩⟩
 case rest =>
  clear HC2;obtain ⟨kq,x38_1,rfl,HA,HJ1,BK1001,HB⟩:=hcut
  cases kq with
  | zero => exact absurd HA.out (by simp [spec_GoodRelabel.j0])
  | succ kj1 =>
   have H:=HA.out;clear HA;simp only [spec_GoodRelabel.j0] at H
   by_cases c18 : x38_1 = true
   ·subst c18;replace H:=it_ H;obtain rfl:=si_ H;go_wp2;go_ret;exact ⟨rf_,bg_⟩
   ·replace c18:=Bool.eq_false_iff.mpr c18;subst c18;replace H:=if_ H;have H':=am_ H;clear H;have hz19:=bk7_ BK1001;go_wp2
    go_loopg [42] kj1 (fun kq v42 w' => ∃ (x42_2 : Int),v42 = .int .i64 x42_2 ∧ Aside0 (spec_GoodRelabel.l0 kq l0_1 (l0_1.length : Int) x42_2 a0_0 l0_1 a0_2 a0_3 a0_4 a0_5 a0_6 = some r) ∧ Aside0 (kq ≤ kj1) ∧ Aside0 (w'.heap[gb1001]? = some (.cells #[.int .i64 a0_0,(.slice A0_1 l0_1.length c0_1),.string a0_2,.string a0_3,.string a0_4,.string a0_5,.int .i64 a0_6] 82 (0,0))) ∧ Aside0 (Below w.heap.size w w'))
    case atStart => exact ⟨(0),rs_,H',⟨Nat.le_refl _⟩,⟨vk_ BK1001⟩,⟨bg_⟩⟩
    case round =>
     clear H';(try clear c18);(try clear hz19);obtain ⟨x42_2,rfl,HA,HK2,BK1001,HB⟩:=hrel
     cases gk with
     | zero => exact absurd HA.out (by simp [spec_GoodRelabel.l0])
     | succ k2 =>
      have H:=HA.out;clear HA;simp only [spec_GoodRelabel.l0] at H
      by_cases c20 : x42_2 < (l0_1.length : Int)
      ·rw [if_pos c20] at H;have c20b0:=decide_eq_true c20;clear c20;replace H:=is_ H;obtain ⟨c21,H⟩:=H;have c21b0:=decide_eq_true c21;clear c21;replace H:=is_ H;obtain ⟨c22,H⟩:=H;have c22b0:=decide_eq_true c22;clear c22;replace H:=bs_ H;obtain ⟨t1005,A23,H⟩:=H
       by_cases c24 : t1005 = true
       ·subst c24;replace H:=it_ H;have H':=am_ H;clear H;have p1004 : 0 ≤ (x42_2 : Int):=od_;have q1004 : x42_2 < (l0_1.length : Int):=od_;obtain ⟨ad1004,e1004,hx1004_0⟩:=Kd.at_string HR0_1.out x42_2 p1004 q1004
        cases e1004
        replace hx1004_0:=kp_ HB hx1004_0;replace p1004:=eq_true p1004;replace q1004:=eq_true q1004;go_wp2_with (first|((with_reducible refine gate_callee (f:=49) rfl ?_);refine gl_ 47 Try.func49 #[.string (rdOf ByteArray.empty l0_1 x42_2)] ?_;(with_reducible refine (spec_l2Name.calls k2 (rdOf ByteArray.empty l0_1 x42_2) true _ A23.out).mono ?_);rintro e w' ⟨rfl,⟨nd,rfl⟩⟩;refine ⟨_,rfl,?_⟩));go_roundg k2
        case measure => have:=HJ1.out;have:=HK2.out;omega
        case rel => exact ⟨(wrap64 (x42_2 + 1)),rs_,H',⟨by have:=HJ1.out;have:=HK2.out;omega⟩,⟨vk_ BK1001⟩,⟨bg_⟩⟩
       ·replace c24:=Bool.eq_false_iff.mpr c24;subst c24;replace H:=if_ H;obtain rfl:=si_ H;have p1004 : 0 ≤ (x42_2 : Int):=od_;have q1004 : x42_2 < (l0_1.length : Int):=od_;obtain ⟨ad1004,e1004,hx1004_0⟩:=Kd.at_string HR0_1.out x42_2 p1004 q1004
        cases e1004
        replace hx1004_0:=kp_ HB hx1004_0;replace p1004:=eq_true p1004;replace q1004:=eq_true q1004;go_wp2_with (first|((with_reducible refine gate_callee (f:=49) rfl ?_);refine gl_ 47 Try.func49 #[.string (rdOf ByteArray.empty l0_1 x42_2)] ?_;(with_reducible refine (spec_l2Name.calls k2 (rdOf ByteArray.empty l0_1 x42_2) false _ A23.out).mono ?_);rintro e w' ⟨rfl,⟨nd,rfl⟩⟩;refine ⟨_,rfl,?_⟩));go_ret;exact ⟨rf_,bg_⟩
      ·rw [if_neg c20] at H;have c20b0:=decide_eq_false c20;clear c20;have HC25:=am_ H;clear H;go_upto_region 9 with (fail)
       go_cut [5] (fun v5 wc => ∃ (kq : Nat) (x5_24 : Bool),v5 = .bool x5_24 ∧ Aside0 (spec_GoodRelabel.j2 kq x5_24 a0_0 l0_1 a0_2 a0_3 a0_4 a0_5 a0_6 = some r) ∧ Aside0 (kq ≤ k2) ∧ Aside0 (wc.heap[gb1001]? = some (.cells #[.int .i64 a0_0,(.slice A0_1 l0_1.length c0_1),.string a0_2,.string a0_3,.string a0_4,.string a0_5,.int .i64 a0_6] 82 (0,0))) ∧ Aside0 (Below w.heap.size w wc))
       case first =>
        have H:=HC25.out;clear HC25
        by_cases c26 : a0_0 = 5
        ·rw [if_pos c26] at H;have c26b0:=eb_ c26;have c26b1:=en_ c26;clear c26;(first|rw [c26b0]|(simp only [i64_w,i32_w];rw [c26b0])|skip);have H':=am_ H;clear H;have hz27:=bk7_ BK1001;go_wp2;go_meet
         case rel => exact ⟨_,(true),rs_,H',⟨by have:=HJ1.out;have:=HK2.out;first|omega|exact Nat.le_refl _⟩,⟨vk_ BK1001⟩,⟨bg_⟩⟩
        ·rw [if_neg c26] at H;have c26b0:=nb_ c26;have c26b1:=nn_ c26;(first|rw [c26b0]|(simp only [i64_w,i32_w];rw [c26b0])|skip)
         by_cases c28 : a0_0 = 6
         ·rw [if_pos c28] at H;have c28b0:=eb_ c28;have c28b1:=en_ c28;clear c28;have H':=am_ H;clear H;have hz29:=bk7_ BK1001;go_wp2;go_meet
          case rel => exact ⟨_,(true),rs_,H',⟨by have:=HJ1.out;have:=HK2.out;first|omega|exact Nat.le_refl _⟩,⟨vk_ BK1001⟩,⟨bg_⟩⟩
         ·rw [if_neg c28] at H;have c28b0:=nb_ c28;have c28b1:=nn_ c28;have H':=am_ H;clear H;have hz30:=bk7_ BK1001;go_wp2;go_meet
          case rel => exact ⟨_,((a0_0 == 7)),rs_,H',⟨by have:=HJ1.out;have:=HK2.out;first|omega|exact Nat.le_refl _⟩,⟨vk_ BK1001⟩,⟨bg_⟩⟩
       case rest =>
        clear HC25;(try clear c20);(try clear c20b0);obtain ⟨kq,x5_24,rfl,HA,HJ24,BK1001,HB⟩:=hcut
        cases kq with
        | zero => exact absurd HA.out (by simp [spec_GoodRelabel.j2])
        | succ kj24 =>
         have H:=HA.out;clear HA;simp only [spec_GoodRelabel.j2] at H;have HC31:=am_ H;clear H;go_upto_region 10 with (fail)
         go_cut [74] (fun v74 wc => ∃ (kq : Nat) (x74_30 : Bool),v74 = .bool x74_30 ∧ Aside0 (spec_GoodRelabel.j3 kq x74_30 a0_0 l0_1 a0_2 a0_3 a0_4 a0_5 a0_6 = some r) ∧ Aside0 (kq ≤ kj24) ∧ Aside0 (wc.heap[gb1001]? = some (.cells #[.int .i64 a0_0,(.slice A0_1 l0_1.length c0_1),.string a0_2,.string a0_3,.string a0_4,.string a0_5,.int .i64 a0_6] 82 (0,0))) ∧ Aside0 (Below w.heap.size w wc))
         case first =>
          have H:=HC31.out;clear HC31
          by_cases c32 : x5_24 = true
          ·subst c32;replace H:=it_ H
           by_cases c33 : (l0_1.length : Int) > 0
           ·rw [if_pos c33] at H;have c33b0:=dg_ c33;have c33b1 : decide (0 < l0_1.length) = true:=decide_eq_true (by omega);have c33b2 : 0 < l0_1.length:=by omega
            clear c33;(first|rw [c33b0]|(simp only [i64_w,i32_w];rw [c33b0])|skip);have H':=am_ H;clear H;have hz34:=bk7_ BK1001;go_wp2;go_meet
            case rel => exact ⟨_,(true),rs_,H',⟨by have:=HJ1.out;have:=HK2.out;have:=HJ24.out;first|omega|exact Nat.le_refl _⟩,⟨vk_ BK1001⟩,⟨bg_⟩⟩
           ·rw [if_neg c33] at H;have c33b0:=df_ c33;have c33b1 : decide (0 < l0_1.length) = false:=decide_eq_false (by omega);have c33b2 : ¬ 0 < l0_1.length:=by omega
            clear c33;(first|rw [c33b0]|(simp only [i64_w,i32_w];rw [c33b0])|skip);have H':=am_ H;clear H;have hz35:=bk7_ BK1001;go_wp2;go_meet
            case rel => exact ⟨_,((a0_2.toList != ([] : List UInt8))),(by first|rfl|(simp;done)|(simp [*];done)|(simp [*,Go.Proofs.Ytfdbbpnmnogddaa.Gt.nil_bne];done)),H',⟨by have:=HJ1.out;have:=HK2.out;have:=HJ24.out;first|omega|exact Nat.le_refl _⟩,⟨vk_ BK1001⟩,⟨bg_⟩⟩
          ·replace c32:=Bool.eq_false_iff.mpr c32;subst c32;replace H:=if_ H;have H':=am_ H;clear H;go_wp2;go_meet
           case rel => exact ⟨_,(false),rs_,H',⟨by have:=HJ1.out;have:=HK2.out;have:=HJ24.out;first|omega|exact Nat.le_refl _⟩,⟨vk_ BK1001⟩,⟨bg_⟩⟩
         case rest =>
          clear HC31;obtain ⟨kq,x74_30,rfl,HA,HJ30,BK1001,HB⟩:=hcut
          cases kq with
          | zero => exact absurd HA.out (by simp [spec_GoodRelabel.j3])
          | succ kj30 =>
           have H:=HA.out;clear HA;simp only [spec_GoodRelabel.j3] at H
           by_cases c36 : x74_30 = true
           ·subst c36;replace H:=it_ H;obtain rfl:=si_ H;go_wp2;go_ret;exact ⟨rf_,bg_⟩
           ·replace c36:=Bool.eq_false_iff.mpr c36;subst c36;replace H:=if_ H;have HC37:=am_ H;clear H;go_upto_region 12 with (fail)
            go_cut [6] (fun v6 wc => ∃ (kq : Nat) (x6_36 : Bool),v6 = .bool x6_36 ∧ Aside0 (spec_GoodRelabel.j4 kq x6_36 a0_0 l0_1 a0_2 a0_3 a0_4 a0_5 a0_6 = some r) ∧ Aside0 (kq ≤ kj30) ∧ Aside0 (wc.heap[gb1001]? = some (.cells #[.int .i64 a0_0,(.slice A0_1 l0_1.length c0_1),.string a0_2,.string a0_3,.string a0_4,.string a0_5,.int .i64 a0_6] 82 (0,0))) ∧ Aside0 (Below w.heap.size w wc))
            case first =>
             have H:=HC37.out;clear HC37
             by_cases c38 : a0_0 = 4
             ·rw [if_pos c38] at H;have c38b0:=eb_ c38;have c38b1:=en_ c38;clear c38;(first|rw [c38b0]|(simp only [i64_w,i32_w];rw [c38b0])|skip);have H':=am_ H;clear H;have hz39:=bk7_ BK1001;go_wp2;go_meet
              case rel => exact ⟨_,(true),rs_,H',⟨by have:=HJ1.out;have:=HK2.out;have:=HJ24.out;have:=HJ30.out;first|omega|exact Nat.le_refl _⟩,⟨vk_ BK1001⟩,⟨bg_⟩⟩
             ·rw [if_neg c38] at H;have c38b0:=nb_ c38;have c38b1:=nn_ c38;(first|rw [c38b0]|(simp only [i64_w,i32_w];rw [c38b0])|skip);have H':=am_ H;clear H;have hz40:=bk7_ BK1001;go_wp2;go_meet
              case rel => exact ⟨_,((a0_0 == 8)),rs_,H',⟨by have:=HJ1.out;have:=HK2.out;have:=HJ24.out;have:=HJ30.out;first|omega|exact Nat.le_refl _⟩,⟨vk_ BK1001⟩,⟨bg_⟩⟩
            case rest =>
             clear HC37;(try clear c36);obtain ⟨kq,x6_36,rfl,HA,HJ36,BK1001,HB⟩:=hcut
             cases kq with
             | zero => exact absurd HA.out (by simp [spec_GoodRelabel.j4])
             | succ kj36 =>
              have H:=HA.out;clear HA;simp only [spec_GoodRelabel.j4] at H;have HC41:=am_ H;clear H;go_upto_region 13 with (fail)
              go_cut [88] (fun v88 wc => ∃ (kq : Nat) (x88_40 : Bool),v88 = .bool x88_40 ∧ Aside0 (spec_GoodRelabel.j5 kq x6_36 x88_40 a0_0 l0_1 a0_2 a0_3 a0_4 a0_5 a0_6 = some r) ∧ Aside0 (kq ≤ kj36) ∧ Aside0 (wc.heap[gb1001]? = some (.cells #[.int .i64 a0_0,(.slice A0_1 l0_1.length c0_1),.string a0_2,.string a0_3,.string a0_4,.string a0_5,.int .i64 a0_6] 82 (0,0))) ∧ Aside0 (Below w.heap.size w wc))
              case first =>
               have H:=HC41.out;clear HC41
               by_cases c42 : x6_36 = true
               ·subst c42;replace H:=it_ H;have H':=am_ H;clear H;have hz43:=bk7_ BK1001;go_wp2;go_meet
                case rel => exact ⟨_,((a0_3.toList != ([] : List UInt8))),(by first|rfl|(simp;done)|(simp [*];done)|(simp [*,Go.Proofs.Ytfdbbpnmnogddaa.Gt.nil_bne];done)),H',⟨by have:=HJ1.out;have:=HK2.out;have:=HJ24.out;have:=HJ30.out;have:=HJ36.out;first|omega|exact Nat.le_refl _⟩,⟨vk_ BK1001⟩,⟨bg_⟩⟩
               ·replace c42:=Bool.eq_false_iff.mpr c42;subst c42;replace H:=if_ H;have H':=am_ H;clear H;go_wp2;go_meet
                case rel => exact ⟨_,(false),rs_,H',⟨by have:=HJ1.out;have:=HK2.out;have:=HJ24.out;have:=HJ30.out;have:=HJ36.out;first|omega|exact Nat.le_refl _⟩,⟨vk_ BK1001⟩,⟨bg_⟩⟩
              case rest =>
               clear HC41;obtain ⟨kq,x88_40,rfl,HA,HJ40,BK1001,HB⟩:=hcut
               cases kq with
               | zero => exact absurd HA.out (by simp [spec_GoodRelabel.j5])
               | succ kj40 =>
                have H:=HA.out;clear HA;simp only [spec_GoodRelabel.j5] at H
                by_cases c44 : x88_40 = true
                ·subst c44;replace H:=it_ H;obtain rfl:=si_ H;go_wp2;go_ret;exact ⟨rf_,bg_⟩
                ·replace c44:=Bool.eq_false_iff.mpr c44;subst c44;replace H:=if_ H;have HC45:=am_ H;clear H;go_upto_region 15 with (fail)
                 go_cut [94] (fun v94 wc => ∃ (kq : Nat) (x94_44 : Bool),v94 = .bool x94_44 ∧ Aside0 (spec_GoodRelabel.j6 kq x94_44 a0_0 l0_1 a0_2 a0_3 a0_4 a0_5 a0_6 = some r) ∧ Aside0 (kq ≤ kj40) ∧ Aside0 (wc.heap[gb1001]? = some (.cells #[.int .i64 a0_0,(.slice A0_1 l0_1.length c0_1),.string a0_2,.string a0_3,.string a0_4,.string a0_5,.int .i64 a0_6] 82 (0,0))) ∧ Aside0 (Below w.heap.size w wc))
                 case first =>
                  have H:=HC45.out;clear HC45
                  by_cases c46 : x6_36 = true
                  ·subst c46;replace H:=it_ H;have H':=am_ H;clear H;go_wp2;go_meet
                   case rel => exact ⟨_,(true),rs_,H',⟨by have:=HJ1.out;have:=HK2.out;have:=HJ24.out;have:=HJ30.out;have:=HJ36.out;have:=HJ40.out;first|omega|exact Nat.le_refl _⟩,⟨vk_ BK1001⟩,⟨bg_⟩⟩
                  ·replace c46:=Bool.eq_false_iff.mpr c46;subst c46;replace H:=if_ H;have H':=am_ H;clear H;have hz47:=bk7_ BK1001;go_wp2;go_meet
                   case rel => exact ⟨_,((a0_0 == 3)),rs_,H',⟨by have:=HJ1.out;have:=HK2.out;have:=HJ24.out;have:=HJ30.out;have:=HJ36.out;have:=HJ40.out;first|omega|exact Nat.le_refl _⟩,⟨vk_ BK1001⟩,⟨bg_⟩⟩
                 case rest =>
                  clear HC45;(try clear c44);obtain ⟨kq,x94_44,rfl,HA,HJ44,BK1001,HB⟩:=hcut
                  cases kq with
                  | zero => exact absurd HA.out (by simp [spec_GoodRelabel.j6])
                  | succ kj44 =>
                   have H:=HA.out;clear HA;simp only [spec_GoodRelabel.j6] at H;have HC48:=am_ H;clear H;go_upto_if 94 with (fail)
                   go_cut [] (fun wc => ∃ (kq : Nat),Aside0 (spec_GoodRelabel.j7 kq a0_0 l0_1 a0_2 a0_3 a0_4 a0_5 a0_6 = some r) ∧ Aside0 (kq ≤ kj44) ∧ Aside0 (wc.heap[gb1001]? = some (.cells #[.int .i64 a0_0,(.slice A0_1 l0_1.length c0_1),.string a0_2,.string a0_3,.string a0_4,.string a0_5,.int .i64 a0_6] 82 (0,0))) ∧ Aside0 (Below w.heap.size w wc))
                   case first =>
                    have H:=HC48.out;clear HC48
                    by_cases c49 : x94_44 = true
                    ·subst c49;replace H:=it_ H;replace H:=bs_ H;obtain ⟨t1006,A50,H⟩:=H
                     by_cases c51 : t1006 = true
                     ·subst c51;replace H:=it_ H;have H':=am_ H;clear H;have hz52:=bk7_ BK1001;go_wp2_with (first|((with_reducible refine gate_callee (f:=49) rfl ?_);refine gl_ 97 Try.func49 #[.string a0_4] ?_;(with_reducible refine (spec_l2Name.calls kj44 a0_4 true _ A50.out).mono ?_);rintro e w' ⟨rfl,⟨nd,rfl⟩⟩;refine ⟨_,rfl,?_⟩));go_meet
                      case rel => exact ⟨_,H',⟨by have:=HJ1.out;have:=HK2.out;have:=HJ24.out;have:=HJ30.out;have:=HJ36.out;have:=HJ40.out;have:=HJ44.out;first|omega|exact Nat.le_refl _⟩,⟨vk_ BK1001⟩,⟨bg_⟩⟩
                     ·replace c51:=Bool.eq_false_iff.mpr c51;subst c51;replace H:=if_ H;obtain rfl:=si_ H;have hz53:=bk7_ BK1001;go_wp2_with (first|((with_reducible refine gate_callee (f:=49) rfl ?_);refine gl_ 97 Try.func49 #[.string a0_4] ?_;(with_reducible refine (spec_l2Name.calls kj44 a0_4 false _ A50.out).mono ?_);rintro e w' ⟨rfl,⟨nd,rfl⟩⟩;refine ⟨_,rfl,?_⟩));go_ret;exact ⟨rf_,bg_⟩
                    ·replace c49:=Bool.eq_false_iff.mpr c49;subst c49;replace H:=if_ H
                     by_cases c54 : a0_4.toList = ([] : List UInt8)
                     ·rw [if_pos c54] at H;have c54b0:=eb_ c54;have c54b1:=en_ c54;clear c54;(first|rw [c54b0]|(simp only [i64_w,i32_w];rw [c54b0])|skip);have H':=am_ H;clear H;have hz55:=bk7_ BK1001;go_wp2;go_meet
                      case rel => exact ⟨_,H',⟨by have:=HJ1.out;have:=HK2.out;have:=HJ24.out;have:=HJ30.out;have:=HJ36.out;have:=HJ40.out;have:=HJ44.out;first|omega|exact Nat.le_refl _⟩,⟨vk_ BK1001⟩,⟨bg_⟩⟩
                     ·rw [if_neg c54] at H;have c54b0:=nb_ c54;have c54b1:=nn_ c54;(first|rw [c54b0]|(simp only [i64_w,i32_w];rw [c54b0])|skip);obtain rfl:=si_ H;have hz56:=bk7_ BK1001;go_wp2;go_ret;exact ⟨rf_,bg_⟩
                   case rest =>
                    clear HC48;obtain ⟨kq,HA,HJ47,BK1001,HB⟩:=hcut
                    cases kq with
                    | zero => exact absurd HA.out (by simp [spec_GoodRelabel.j7])
                    | succ kj47 =>
                     have H:=HA.out;clear HA;simp only [spec_GoodRelabel.j7] at H;have HC57:=am_ H;clear H;go_upto_region 20 with (fail)
                     go_cut [109] (fun v109 wc => ∃ (kq : Nat) (x109_56 : Bool),v109 = .bool x109_56 ∧ Aside0 (spec_GoodRelabel.j8 kq x109_56 a0_0 l0_1 a0_2 a0_3 a0_4 a0_5 a0_6 = some r) ∧ Aside0 (kq ≤ kj47) ∧ Aside0 (wc.heap[gb1001]? = some (.cells #[.int .i64 a0_0,(.slice A0_1 l0_1.length c0_1),.string a0_2,.string a0_3,.string a0_4,.string a0_5,.int .i64 a0_6] 82 (0,0))) ∧ Aside0 (Below w.heap.size w wc))
                     case first =>
                      have H:=HC57.out;clear HC57
                      by_cases c58 : a0_0 = 3
                      ·rw [if_pos c58] at H;have c58b0:=eb_ c58;have c58b1:=en_ c58;clear c58;(first|rw [c58b0]|(simp only [i64_w,i32_w];rw [c58b0])|skip);have H':=am_ H;clear H;have hz59:=bk7_ BK1001;go_wp2;go_meet
                       case rel => exact ⟨_,(true),rs_,H',⟨by have:=HJ1.out;have:=HK2.out;have:=HJ24.out;have:=HJ30.out;have:=HJ36.out;have:=HJ40.out;have:=HJ44.out;have:=HJ47.out;first|omega|exact Nat.le_refl _⟩,⟨vk_ BK1001⟩,⟨bg_⟩⟩
                      ·rw [if_neg c58] at H;have c58b0:=nb_ c58;have c58b1:=nn_ c58;(first|rw [c58b0]|(simp only [i64_w,i32_w];rw [c58b0])|skip);have H':=am_ H;clear H;have hz60:=bk7_ BK1001;go_wp2;go_meet
                       case rel => exact ⟨_,((a0_0 == 5)),rs_,H',⟨by have:=HJ1.out;have:=HK2.out;have:=HJ24.out;have:=HJ30.out;have:=HJ36.out;have:=HJ40.out;have:=HJ44.out;have:=HJ47.out;first|omega|exact Nat.le_refl _⟩,⟨vk_ BK1001⟩,⟨bg_⟩⟩
                     case rest =>
                      clear HC57;obtain ⟨kq,x109_56,rfl,HA,HJ56,BK1001,HB⟩:=hcut
                      cases kq with
                      | zero => exact absurd HA.out (by simp [spec_GoodRelabel.j8])
                      | succ kj56 =>
                       have H:=HA.out;clear HA;simp only [spec_GoodRelabel.j8] at H
                       by_cases c61 : x109_56 = true
                       ·subst c61;replace H:=it_ H;replace H:=bs_ H;obtain ⟨t1007,A62,H⟩:=H
                        by_cases c63 : t1007 = true
                        ·subst c63;replace H:=it_ H
                         by_cases c64 : a0_0 = 4
                         ·rw [if_pos c64] at H;have c64b0:=eb_ c64;have c64b1:=en_ c64;clear c64
                          by_cases c65 : a0_6 ≥ 1
                          ·rw [if_pos c65] at H;have c65b0 : decide (1 ≤ a0_6) = true:=decide_eq_true c65;clear c65;obtain rfl:=si_ H;have hz66:=bk7_ BK1001;go_wp2_with (first|((with_reducible refine gate_callee (f:=116) rfl ?_);refine gl_ 112 Try.func116 #[.string a0_5] ?_;(with_reducible refine (spec_l4Filling.calls kj56 a0_5 true _ A62.out).mono ?_);rintro e w' ⟨rfl,⟨nd,rfl⟩⟩;refine ⟨_,rfl,?_⟩));go_ret;exact ⟨rf_,bg_⟩
                          ·rw [if_neg c65] at H;have c65b0 : decide (1 ≤ a0_6) = false:=decide_eq_false c65;clear c65;obtain rfl:=si_ H;have hz67:=bk7_ BK1001;go_wp2_with (first|((with_reducible refine gate_callee (f:=116) rfl ?_);refine gl_ 112 Try.func116 #[.string a0_5] ?_;(with_reducible refine (spec_l4Filling.calls kj56 a0_5 true _ A62.out).mono ?_);rintro e w' ⟨rfl,⟨nd,rfl⟩⟩;refine ⟨_,rfl,?_⟩));go_ret;exact ⟨rf_,bg_⟩
                         ·rw [if_neg c64] at H;have c64b0:=nb_ c64;have c64b1:=nn_ c64;obtain rfl:=si_ H;have hz68:=bk7_ BK1001;go_wp2_with (first|((with_reducible refine gate_callee (f:=116) rfl ?_);refine gl_ 112 Try.func116 #[.string a0_5] ?_;(with_reducible refine (spec_l4Filling.calls kj56 a0_5 true _ A62.out).mono ?_);rintro e w' ⟨rfl,⟨nd,rfl⟩⟩;refine ⟨_,rfl,?_⟩));go_ret;exact ⟨rf_,bg_⟩
                        ·replace c63:=Bool.eq_false_iff.mpr c63;subst c63;replace H:=if_ H;obtain rfl:=si_ H;have hz69:=bk7_ BK1001;go_wp2_with (first|((with_reducible refine gate_callee (f:=116) rfl ?_);refine gl_ 112 Try.func116 #[.string a0_5] ?_;(with_reducible refine (spec_l4Filling.calls kj56 a0_5 false _ A62.out).mono ?_);rintro e w' ⟨rfl,⟨nd,rfl⟩⟩;refine ⟨_,rfl,?_⟩));go_ret;exact ⟨rf_,bg_⟩
                       ·replace c61:=Bool.eq_false_iff.mpr c61;subst c61;replace H:=if_ H
                        by_cases c70 : a0_5.toList = ([] : List UInt8)
                        ·rw [if_pos c70] at H;have c70b0:=eb_ c70;have c70b1:=en_ c70;clear c70
                         by_cases c71 : a0_0 = 4
                         ·rw [if_pos c71] at H;have c71b0:=eb_ c71;have c71b1:=en_ c71;clear c71
                          by_cases c72 : a0_6 ≥ 1
                          ·rw [if_pos c72] at H;have c72b0 : decide (1 ≤ a0_6) = true:=decide_eq_true c72;clear c72;obtain rfl:=si_ H;have hz73:=bk7_ BK1001;go_wp2;go_ret;exact ⟨rf_,bg_⟩
                          ·rw [if_neg c72] at H;have c72b0 : decide (1 ≤ a0_6) = false:=decide_eq_false c72;clear c72;obtain rfl:=si_ H;have hz74:=bk7_ BK1001;go_wp2;go_ret;exact ⟨rf_,bg_⟩
                         ·rw [if_neg c71] at H;have c71b0:=nb_ c71;have c71b1:=nn_ c71;obtain rfl:=si_ H;have hz75:=bk7_ BK1001;go_wp2;go_ret;exact ⟨rf_,bg_⟩
                        ·rw [if_neg c70] at H;have c70b0:=nb_ c70;have c70b1:=nn_ c70;obtain rfl:=si_ H;have hz76:=bk7_ BK1001;go_wp2;go_ret;exact ⟨rf_,bg_⟩
def spec_l4Rules.l0 : Nat → List (S82) → Int → Int → Option (Bool)
 | 0,_,_,_ => none
 | k + 1,x8,x9,x10 => if x10 < x9 then (if 0 ≤ x10 then (if x10 < (x8.length : Int) then ((spec_GoodRelabel.f k ((rd_T82 x8 x10).f0) ((rd_T82 x8 x10).f1) ((rd_T82 x8 x10).f2) ((rd_T82 x8 x10).f3) ((rd_T82 x8 x10).f4) ((rd_T82 x8 x10).f5) ((rd_T82 x8 x10).f6)).bind fun t1003 => (if t1003 = true then (spec_l4Rules.l0 k x8 x9 (wrap64 (x10 + 1))) else (some false))) else (none)) else (none)) else (some true)
def spec_l4Rules.f (k : Nat) (l0 : List (S82)) : Option (Bool):=if (l0.length : Int) > 30 then (some false) else (spec_l4Rules.l0 k l0 (l0.length : Int) 0)
theorem spec_l4Rules.mono_l : ∀ k,(∀ y0 y1 y2,LeO (spec_l4Rules.l0 k y0 y1 y2) (spec_l4Rules.l0 (k + 1) y0 y1 y2))
 | 0 => fun _ _ _ r h => by simp [spec_l4Rules.l0] at h
 | k + 1 => by
  have ih0:=spec_l4Rules.mono_l k
  ·intro y0 y1 y2
   unfold spec_l4Rules.l0
   repeat' with_reducible first|apply ih0|apply spec_GoodRelabel.mono|apply LeO.refl|apply LeO.none|apply LeO.ite|refine LeO.bind ?_ (fun _ => ?_)
theorem spec_l4Rules.mono : ∀ a0 k,LeO (spec_l4Rules.f k a0) (spec_l4Rules.f (k + 1) a0):=by
 intro a0 k
 have ih0:=spec_l4Rules.mono_l k
 unfold spec_l4Rules.f
 repeat' with_reducible first|apply ih0|apply spec_GoodRelabel.mono|apply LeO.refl|apply LeO.none|apply LeO.ite|refine LeO.bind ?_ (fun _ => ?_)
theorem spec_l4Rules.calls (k : Nat) (A0 : Option Addr) (c0 : Nat) (l0 : List (S82)) (r : Bool) (w : World) (hr0 : Kd.C k82 w A0 l0.length l0) (hc0 : l0.length ≤ c0) (h : spec_l4Rules.f k l0 = some r) :
  Calls Try.prog 48 #[.slice A0 l0.length c0] w fun e w' => e = .returned (.bool r) ∧ Below w.heap.size w w':=by
 have hu82:=Try.underlying82;have HR0:=am_ hr0;have HC0:=am_ hc0;clear hr0 hc0;have HB:=am_ (Below.refl w.heap.size w);have H:=h;clear h;unfold spec_l4Rules.f at H
 by_cases c2 : (l0.length : Int) > 30
 ·rw [if_pos c2] at H;have c2b0:=dg_ c2;have c2b1 : decide (30 < l0.length) = true:=decide_eq_true (by omega);clear c2;obtain rfl:=si_ H;go_enter Try.func48,Try.ntmps48;go_wp2;go_ret;exact ⟨rf_,bl_⟩
 ·rw [if_neg c2] at H;have c2b0:=df_ c2;have c2b1 : decide (30 < l0.length) = false:=decide_eq_false (by omega);clear c2;have H':=am_ H;clear H;go_enter Try.func48,Try.ntmps48;go_wp2
  go_loopg [10] k (fun kq v10 w' => ∃ (x10_1 : Int),v10 = .int .i64 x10_1 ∧ Aside0 (spec_l4Rules.l0 kq l0 (l0.length : Int) x10_1 = some r) ∧ Aside0 (kq ≤ k) ∧ Aside0 (Below w.heap.size w w'))
  case atStart => exact ⟨(0),rs_,H',⟨Nat.le_refl _⟩,⟨bl_⟩⟩
  case round =>
   clear H';(try clear c2);(try clear c2b0);(try clear c2b1);obtain ⟨x10_1,rfl,HA,HK1,HB⟩:=hrel
   cases gk with
   | zero => exact absurd HA.out (by simp [spec_l4Rules.l0])
   | succ k1 =>
    have H:=HA.out;clear HA;simp only [spec_l4Rules.l0] at H
    by_cases c3 : x10_1 < (l0.length : Int)
    ·rw [if_pos c3] at H;have c3b0:=decide_eq_true c3;clear c3;replace H:=is_ H;obtain ⟨c4,H⟩:=H;have c4b0:=decide_eq_true c4;clear c4;replace H:=is_ H;obtain ⟨c5,H⟩:=H;have c5b0:=decide_eq_true c5;clear c5;replace H:=bs_ H;obtain ⟨t1003,A6,H⟩:=H
     by_cases c7 : t1003 = true
     ·subst c7;replace H:=it_ H;have H':=am_ H;clear H;have p1001 : 0 ≤ (x10_1 : Int):=od_;have q1001 : x10_1 < (l0.length : Int):=od_;obtain ⟨ad1001,A1001_1,c1001_1,e1001,hx1001_0,hx1001_1,hx1001_2,hx1001_3,hx1001_4,hx1001_5,hx1001_6,hl1001_1,hi1001_1⟩:=at_T82 HR0.out x10_1 p1001 q1001
      cases e1001
      replace hx1001_0:=kp_ HB hx1001_0;replace hx1001_1:=kp_ HB hx1001_1;replace hx1001_2:=kp_ HB hx1001_2;replace hx1001_3:=kp_ HB hx1001_3;replace hx1001_4:=kp_ HB hx1001_4;replace hx1001_5:=kp_ HB hx1001_5;replace hx1001_6:=kp_ HB hx1001_6;have HR1001_1:=am_ hi1001_1;have HC1001_1:=am_ hl1001_1;clear hi1001_1 hl1001_1;replace p1001:=eq_true p1001;replace q1001:=eq_true q1001;go_wp2_with (first|((with_reducible refine gate_dst (N:=4) rfl ?_);refine bx_ 4 #[.int .i64 0,.slice none 0 0,.string (⟨#[]⟩ : ByteArray),.string (⟨#[]⟩ : ByteArray),.string (⟨#[]⟩ : ByteArray),.string (⟨#[]⟩ : ByteArray),.int .i64 0] 82 ?_;intro gb1002 hg w8 hbox hb;have BK1002:=am_ (hbox);have GW1002:=am_ (gs_ hg : w.heap.size ≤ gb1002);replace HB:=am_ (below_step bl_ hb);have GE1002:=GW1002;clear hb hbox hg;have hz9:=bk7_ BK1002)|((with_reducible refine gate_callee (f:=86) rfl ?_);refine gl_ 15 Try.func86 #[.agg #[.int .i64 ((rd_T82 l0 x10_1).f0),.slice A1001_1 ((rd_T82 l0 x10_1).f1).length c1001_1,.string ((rd_T82 l0 x10_1).f2),.string ((rd_T82 l0 x10_1).f3),.string ((rd_T82 l0 x10_1).f4),.string ((rd_T82 l0 x10_1).f5),.int .i64 ((rd_T82 l0 x10_1).f6)]] ?_;(with_reducible refine (spec_GoodRelabel.calls k1 ((rd_T82 l0 x10_1).f0) _ _ ((rd_T82 l0 x10_1).f1) ((rd_T82 l0 x10_1).f2) ((rd_T82 l0 x10_1).f3) ((rd_T82 l0 x10_1).f4) ((rd_T82 l0 x10_1).f5) ((rd_T82 l0 x10_1).f6) true _ ?side1 ?side2 A6.out).mono ?_);(case side1 => exact Kd.C_below HR1001_1.out bg_);(case side2 => exact HC1001_1.out);rintro e w10 ⟨rfl,hb⟩;refine ⟨_,rfl,?_⟩;replace BK1002:=am_ (blk_below (g:=gb1002) (o:=.cells #[.int .i64 ((rd_T82 l0 x10_1).f0),.slice A1001_1 ((rd_T82 l0 x10_1).f1).length c1001_1,.string ((rd_T82 l0 x10_1).f2),.string ((rd_T82 l0 x10_1).f3),.string ((rd_T82 l0 x10_1).f4),.string ((rd_T82 l0 x10_1).f5),.int .i64 ((rd_T82 l0 x10_1).f6)] 82 (0,0)) (by (with_reducible repeat (first|refine blk_drewN ?_ _|refine blk_drew ?_|refine blk_alloc ?_ _));refine blk_put (cs:=#[.int .i64 ((rd_T82 l0 x10_1).f0),.slice A1001_1 ((rd_T82 l0 x10_1).f1).length c1001_1,.string ((rd_T82 l0 x10_1).f2),.string ((rd_T82 l0 x10_1).f3),.string ((rd_T82 l0 x10_1).f4),.string ((rd_T82 l0 x10_1).f5),.int .i64 0]) ?_ 6 _ rfl;(with_reducible repeat (first|refine blk_drewN ?_ _|refine blk_drew ?_|refine blk_alloc ?_ _));refine blk_put (cs:=#[.int .i64 ((rd_T82 l0 x10_1).f0),.slice A1001_1 ((rd_T82 l0 x10_1).f1).length c1001_1,.string ((rd_T82 l0 x10_1).f2),.string ((rd_T82 l0 x10_1).f3),.string ((rd_T82 l0 x10_1).f4),.string (⟨#[]⟩ : ByteArray),.int .i64 0]) ?_ 5 _ rfl;(with_reducible repeat (first|refine blk_drewN ?_ _|refine blk_drew ?_|refine blk_alloc ?_ _));refine blk_put (cs:=#[.int .i64 ((rd_T82 l0 x10_1).f0),.slice A1001_1 ((rd_T82 l0 x10_1).f1).length c1001_1,.string ((rd_T82 l0 x10_1).f2),.string ((rd_T82 l0 x10_1).f3),.string (⟨#[]⟩ : ByteArray),.string (⟨#[]⟩ : ByteArray),.int .i64 0]) ?_ 4 _ rfl;(with_reducible repeat (first|refine blk_drewN ?_ _|refine blk_drew ?_|refine blk_alloc ?_ _));refine blk_put (cs:=#[.int .i64 ((rd_T82 l0 x10_1).f0),.slice A1001_1 ((rd_T82 l0 x10_1).f1).length c1001_1,.string ((rd_T82 l0 x10_1).f2),.string (⟨#[]⟩ : ByteArray),.string (⟨#[]⟩ : ByteArray),.string (⟨#[]⟩ : ByteArray),.int .i64 0]) ?_ 3 _ rfl;(with_reducible repeat (first|refine blk_drewN ?_ _|refine blk_drew ?_|refine blk_alloc ?_ _));refine blk_put (cs:=#[.int .i64 ((rd_T82 l0 x10_1).f0),.slice A1001_1 ((rd_T82 l0 x10_1).f1).length c1001_1,.string (⟨#[]⟩ : ByteArray),.string (⟨#[]⟩ : ByteArray),.string (⟨#[]⟩ : ByteArray),.string (⟨#[]⟩ : ByteArray),.int .i64 0]) ?_ 2 _ rfl;(with_reducible repeat (first|refine blk_drewN ?_ _|refine blk_drew ?_|refine blk_alloc ?_ _));refine blk_put (cs:=#[.int .i64 ((rd_T82 l0 x10_1).f0),.slice none 0 0,.string (⟨#[]⟩ : ByteArray),.string (⟨#[]⟩ : ByteArray),.string (⟨#[]⟩ : ByteArray),.string (⟨#[]⟩ : ByteArray),.int .i64 0]) ?_ 1 _ rfl;(with_reducible repeat (first|refine blk_drewN ?_ _|refine blk_drew ?_|refine blk_alloc ?_ _));refine blk_put (cs:=#[.int .i64 0,.slice none 0 0,.string (⟨#[]⟩ : ByteArray),.string (⟨#[]⟩ : ByteArray),.string (⟨#[]⟩ : ByteArray),.string (⟨#[]⟩ : ByteArray),.int .i64 0]) ?_ 0 _ rfl;(with_reducible repeat (first|refine blk_drewN ?_ _|refine blk_drew ?_|refine blk_alloc ?_ _));exact BK1002.out) hb);replace HB:=am_ (below_step bg_ hb);(try clear hb)));go_roundg k1
      case measure => have:=HK1.out;omega
      case rel => exact ⟨(wrap64 (x10_1 + 1)),rs_,H',⟨by have:=HK1.out;omega⟩,⟨bg_⟩⟩
     ·replace c7:=Bool.eq_false_iff.mpr c7;subst c7;replace H:=if_ H;obtain rfl:=si_ H;have p1001 : 0 ≤ (x10_1 : Int):=od_;have q1001 : x10_1 < (l0.length : Int):=od_;obtain ⟨ad1001,A1001_1,c1001_1,e1001,hx1001_0,hx1001_1,hx1001_2,hx1001_3,hx1001_4,hx1001_5,hx1001_6,hl1001_1,hi1001_1⟩:=at_T82 HR0.out x10_1 p1001 q1001
      cases e1001
      replace hx1001_0:=kp_ HB hx1001_0;replace hx1001_1:=kp_ HB hx1001_1;replace hx1001_2:=kp_ HB hx1001_2;replace hx1001_3:=kp_ HB hx1001_3;replace hx1001_4:=kp_ HB hx1001_4;replace hx1001_5:=kp_ HB hx1001_5;replace hx1001_6:=kp_ HB hx1001_6;have HR1001_1:=am_ hi1001_1;have HC1001_1:=am_ hl1001_1;clear hi1001_1 hl1001_1;replace p1001:=eq_true p1001;replace q1001:=eq_true q1001;go_wp2_with (first|((with_reducible refine gate_dst (N:=4) rfl ?_);refine bx_ 4 #[.int .i64 0,.slice none 0 0,.string (⟨#[]⟩ : ByteArray),.string (⟨#[]⟩ : ByteArray),.string (⟨#[]⟩ : ByteArray),.string (⟨#[]⟩ : ByteArray),.int .i64 0] 82 ?_;intro gb1002 hg w11 hbox hb;have BK1002:=am_ (hbox);have GW1002:=am_ (gs_ hg : w.heap.size ≤ gb1002);replace HB:=am_ (below_step bl_ hb);have GE1002:=GW1002;clear hb hbox hg;have hz12:=bk7_ BK1002)|((with_reducible refine gate_callee (f:=86) rfl ?_);refine gl_ 15 Try.func86 #[.agg #[.int .i64 ((rd_T82 l0 x10_1).f0),.slice A1001_1 ((rd_T82 l0 x10_1).f1).length c1001_1,.string ((rd_T82 l0 x10_1).f2),.string ((rd_T82 l0 x10_1).f3),.string ((rd_T82 l0 x10_1).f4),.string ((rd_T82 l0 x10_1).f5),.int .i64 ((rd_T82 l0 x10_1).f6)]] ?_;(with_reducible refine (spec_GoodRelabel.calls k1 ((rd_T82 l0 x10_1).f0) _ _ ((rd_T82 l0 x10_1).f1) ((rd_T82 l0 x10_1).f2) ((rd_T82 l0 x10_1).f3) ((rd_T82 l0 x10_1).f4) ((rd_T82 l0 x10_1).f5) ((rd_T82 l0 x10_1).f6) false _ ?side1 ?side2 A6.out).mono ?_);(case side1 => exact Kd.C_below HR1001_1.out bg_);(case side2 => exact HC1001_1.out);rintro e w13 ⟨rfl,hb⟩;refine ⟨_,rfl,?_⟩;replace BK1002:=am_ (blk_below (g:=gb1002) (o:=.cells #[.int .i64 ((rd_T82 l0 x10_1).f0),.slice A1001_1 ((rd_T82 l0 x10_1).f1).length c1001_1,.string ((rd_T82 l0 x10_1).f2),.string ((rd_T82 l0 x10_1).f3),.string ((rd_T82 l0 x10_1).f4),.string ((rd_T82 l0 x10_1).f5),.int .i64 ((rd_T82 l0 x10_1).f6)] 82 (0,0)) (by (with_reducible repeat (first|refine blk_drewN ?_ _|refine blk_drew ?_|refine blk_alloc ?_ _));refine blk_put (cs:=#[.int .i64 ((rd_T82 l0 x10_1).f0),.slice A1001_1 ((rd_T82 l0 x10_1).f1).length c1001_1,.string ((rd_T82 l0 x10_1).f2),.string ((rd_T82 l0 x10_1).f3),.string ((rd_T82 l0 x10_1).f4),.string ((rd_T82 l0 x10_1).f5),.int .i64 0]) ?_ 6 _ rfl;(with_reducible repeat (first|refine blk_drewN ?_ _|refine blk_drew ?_|refine blk_alloc ?_ _));refine blk_put (cs:=#[.int .i64 ((rd_T82 l0 x10_1).f0),.slice A1001_1 ((rd_T82 l0 x10_1).f1).length c1001_1,.string ((rd_T82 l0 x10_1).f2),.string ((rd_T82 l0 x10_1).f3),.string ((rd_T82 l0 x10_1).f4),.string (⟨#[]⟩ : ByteArray),.int .i64 0]) ?_ 5 _ rfl;(with_reducible repeat (first|refine blk_drewN ?_ _|refine blk_drew ?_|refine blk_alloc ?_ _));refine blk_put (cs:=#[.int .i64 ((rd_T82 l0 x10_1).f0),.slice A1001_1 ((rd_T82 l0 x10_1).f1).length c1001_1,.string ((rd_T82 l0 x10_1).f2),.string ((rd_T82 l0 x10_1).f3),.string (⟨#[]⟩ : ByteArray),.string (⟨#[]⟩ : ByteArray),.int .i64 0]) ?_ 4 _ rfl;(with_reducible repeat (first|refine blk_drewN ?_ _|refine blk_drew ?_|refine blk_alloc ?_ _));refine blk_put (cs:=#[.int .i64 ((rd_T82 l0 x10_1).f0),.slice A1001_1 ((rd_T82 l0 x10_1).f1).length c1001_1,.string ((rd_T82 l0 x10_1).f2),.string (⟨#[]⟩ : ByteArray),.string (⟨#[]⟩ : ByteArray),.string (⟨#[]⟩ : ByteArray),.int .i64 0]) ?_ 3 _ rfl;(with_reducible repeat (first|refine blk_drewN ?_ _|refine blk_drew ?_|refine blk_alloc ?_ _));refine blk_put (cs:=#[.int .i64 ((rd_T82 l0 x10_1).f0),.slice A1001_1 ((rd_T82 l0 x10_1).f1).length c1001_1,.string (⟨#[]⟩ : ByteArray),.string (⟨#[]⟩ : ByteArray),.string (⟨#[]⟩ : ByteArray),.string (⟨#[]⟩ : ByteArray),.int .i64 0]) ?_ 2 _ rfl;(with_reducible repeat (first|refine blk_drewN ?_ _|refine blk_drew ?_|refine blk_alloc ?_ _));refine blk_put (cs:=#[.int .i64 ((rd_T82 l0 x10_1).f0),.slice none 0 0,.string (⟨#[]⟩ : ByteArray),.string (⟨#[]⟩ : ByteArray),.string (⟨#[]⟩ : ByteArray),.string (⟨#[]⟩ : ByteArray),.int .i64 0]) ?_ 1 _ rfl;(with_reducible repeat (first|refine blk_drewN ?_ _|refine blk_drew ?_|refine blk_alloc ?_ _));refine blk_put (cs:=#[.int .i64 0,.slice none 0 0,.string (⟨#[]⟩ : ByteArray),.string (⟨#[]⟩ : ByteArray),.string (⟨#[]⟩ : ByteArray),.string (⟨#[]⟩ : ByteArray),.int .i64 0]) ?_ 0 _ rfl;(with_reducible repeat (first|refine blk_drewN ?_ _|refine blk_drew ?_|refine blk_alloc ?_ _));exact BK1002.out) hb);replace HB:=am_ (below_step bg_ hb);(try clear hb)));go_ret;exact ⟨rf_,bg_⟩
    ·rw [if_neg c3] at H;have c3b0:=decide_eq_false c3;clear c3;obtain rfl:=si_ H;go_wp2;go_ret;exact ⟨rf_,bl_⟩
end Go.Proofs.Ytfdbbpnmnogddaa.Pr
