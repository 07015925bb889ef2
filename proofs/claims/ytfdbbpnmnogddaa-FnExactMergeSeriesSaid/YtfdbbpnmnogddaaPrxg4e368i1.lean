/- Functions of the given program as plain Lean functions, and that the machine's calls come to them; written by a program of this session; no condition but those that each theorem states. -/
import Derived.Test.YtfdbbpnmnogddaaWRepsOne
import Derived.Test.YtfdbbpnmnogddaaPrx0
set_option maxHeartbeats 8000000
set_option maxRecDepth 100000
namespace Go.Proofs.Ytfdbbpnmnogddaa.Pr
open Go.RowKit Go.Proofs.YtfdbbpnmnogddaaW.PrintWords Go.Proofs.YtfdbbpnmnogddaaW.PrintLast Go.Proofs.YtfdbbpnmnogddaaW.PrintMore
attribute [local go_sem] max2_int min2_int max_two min_two max_three min_three max_four min_four
set_option linter.unusedVariables false
set_option linter.unusedSimpArgs false
def impl_digitByte.f (a0 : Int) : Option (Bool):=if a0 ≥ 48 then (some (decide (a0 ≤ 57))) else (some false)
theorem impl_digitByte.calls (a0 : Int) (r : Bool) (w : World) (h : impl_digitByte.f a0 = some r) :
  Calls Try.prog 99 #[.int .u8 a0] w fun e w' => e = .returned (.bool r) ∧ Drawn0 w w':=by
 have H:=h;clear h;unfold impl_digitByte.f at H
 by_cases c2 : a0 ≥ 48
 ·rw [if_pos c2] at H;have c2b0 : decide (48 ≤ a0) = true:=decide_eq_true c2;clear c2;obtain rfl:=si_ H;go_enter Try.func99,Try.ntmps99;go_wp2;go_ret;exact ⟨by first|rfl|(simp;done)|(simp [*];done),by repeat (first|exact Drawn0.refl _|apply Drawn0.step)⟩
 ·rw [if_neg c2] at H;have c2b0 : decide (48 ≤ a0) = false:=decide_eq_false c2;clear c2;obtain rfl:=si_ H;go_enter Try.func99,Try.ntmps99;go_wp2;go_ret;exact ⟨by first|rfl|(simp;done)|(simp [*];done),by repeat (first|exact Drawn0.refl _|apply Drawn0.step)⟩
def impl_letterByte.f (a0 : Int) : Option (Bool):=if a0 ≥ 97 then (if a0 ≤ 122 then (some true) else (if a0 ≥ 65 then (some (decide (a0 ≤ 90))) else (some false))) else (if a0 ≥ 65 then (some (decide (a0 ≤ 90))) else (some false))
theorem impl_letterByte.calls (a0 : Int) (r : Bool) (w : World) (h : impl_letterByte.f a0 = some r) :
  Calls Try.prog 120 #[.int .u8 a0] w fun e w' => e = .returned (.bool r) ∧ Drawn0 w w':=by
 have H:=h;clear h;unfold impl_letterByte.f at H
 by_cases c2 : a0 ≥ 97
 ·rw [if_pos c2] at H;have c2b0 : decide (97 ≤ a0) = true:=decide_eq_true c2;clear c2
  by_cases c3 : a0 ≤ 122
  ·rw [if_pos c3] at H;have c3b0:=decide_eq_true c3;clear c3;obtain rfl:=si_ H;go_enter Try.func120,Try.ntmps120;go_wp2;go_ret;exact ⟨by first|rfl|(simp;done)|(simp [*];done),by repeat (first|exact Drawn0.refl _|apply Drawn0.step)⟩
  ·rw [if_neg c3] at H;have c3b0:=decide_eq_false c3;clear c3
   by_cases c4 : a0 ≥ 65
   ·rw [if_pos c4] at H;have c4b0 : decide (65 ≤ a0) = true:=decide_eq_true c4;clear c4;obtain rfl:=si_ H;go_enter Try.func120,Try.ntmps120;go_wp2;go_ret;exact ⟨by first|rfl|(simp;done)|(simp [*];done),by repeat (first|exact Drawn0.refl _|apply Drawn0.step)⟩
   ·rw [if_neg c4] at H;have c4b0 : decide (65 ≤ a0) = false:=decide_eq_false c4;clear c4;obtain rfl:=si_ H;go_enter Try.func120,Try.ntmps120;go_wp2;go_ret;exact ⟨by first|rfl|(simp;done)|(simp [*];done),by repeat (first|exact Drawn0.refl _|apply Drawn0.step)⟩
 ·rw [if_neg c2] at H;have c2b0 : decide (97 ≤ a0) = false:=decide_eq_false c2;clear c2
  by_cases c5 : a0 ≥ 65
  ·rw [if_pos c5] at H;have c5b0 : decide (65 ≤ a0) = true:=decide_eq_true c5;clear c5;obtain rfl:=si_ H;go_enter Try.func120,Try.ntmps120;go_wp2;go_ret;exact ⟨by first|rfl|(simp;done)|(simp [*];done),by repeat (first|exact Drawn0.refl _|apply Drawn0.step)⟩
  ·rw [if_neg c5] at H;have c5b0 : decide (65 ≤ a0) = false:=decide_eq_false c5;clear c5;obtain rfl:=si_ H;go_enter Try.func120,Try.ntmps120;go_wp2;go_ret;exact ⟨by first|rfl|(simp;done)|(simp [*];done),by repeat (first|exact Drawn0.refl _|apply Drawn0.step)⟩
def impl_wordByte.f (a0 : Int) : Option (Bool):=(impl_letterByte.f a0).bind fun t1001 => (if t1001 = true then (some true) else ((impl_digitByte.f a0).bind fun t1002 => (if t1002 = true then (some true) else (some (a0 == 95)))))
theorem impl_wordByte.calls (a0 : Int) (r : Bool) (w : World) (h : impl_wordByte.f a0 = some r) :
  Calls Try.prog 100 #[.int .u8 a0] w fun e w' => e = .returned (.bool r) ∧ Drawn0 w w':=by
 have H:=h;clear h;unfold impl_wordByte.f at H;replace H:=bs_ H;obtain ⟨t1001,A2,H⟩:=H
 by_cases c3 : t1001 = true
 ·subst c3;replace H:=it_ H;obtain rfl:=si_ H;go_enter Try.func100,Try.ntmps100;go_wp2_with (first|((with_reducible refine gate_callee (f:=120) rfl ?_);refine gl_ 4 Try.func120 #[.int .u8 a0] ?_;(with_reducible refine (impl_letterByte.calls a0 true _ A2.out).mono ?_);rintro e w' ⟨rfl,⟨nd,rfl⟩⟩;refine ⟨_,rfl,?_⟩));go_ret;exact ⟨by first|rfl|(simp;done)|(simp [*];done),by repeat (first|exact Drawn0.refl _|apply Drawn0.step)⟩
 ·replace c3:=Bool.eq_false_iff.mpr c3;subst c3;replace H:=if_ H;replace H:=bs_ H;obtain ⟨t1002,A4,H⟩:=H
  by_cases c5 : t1002 = true
  ·subst c5;replace H:=it_ H;obtain rfl:=si_ H;go_enter Try.func100,Try.ntmps100;go_wp2_with (first|((with_reducible refine gate_callee (f:=120) rfl ?_);refine gl_ 4 Try.func120 #[.int .u8 a0] ?_;(with_reducible refine (impl_letterByte.calls a0 false _ A2.out).mono ?_);rintro e w' ⟨rfl,⟨nd,rfl⟩⟩;refine ⟨_,rfl,?_⟩)|(go_at_call 99;(with_reducible refine (impl_digitByte.calls a0 true _ A4.out).mono ?_);rintro e w' ⟨rfl,⟨nd,rfl⟩⟩));go_ret;exact ⟨by first|rfl|(simp;done)|(simp [*];done),by repeat (first|exact Drawn0.refl _|apply Drawn0.step)⟩
  ·replace c5:=Bool.eq_false_iff.mpr c5;subst c5;replace H:=if_ H;obtain rfl:=si_ H;go_enter Try.func100,Try.ntmps100;go_wp2_with (first|((with_reducible refine gate_callee (f:=120) rfl ?_);refine gl_ 4 Try.func120 #[.int .u8 a0] ?_;(with_reducible refine (impl_letterByte.calls a0 false _ A2.out).mono ?_);rintro e w' ⟨rfl,⟨nd,rfl⟩⟩;refine ⟨_,rfl,?_⟩)|(go_at_call 99;(with_reducible refine (impl_digitByte.calls a0 false _ A4.out).mono ?_);rintro e w' ⟨rfl,⟨nd,rfl⟩⟩));go_ret;exact ⟨by first|rfl|(simp;done)|(simp [*];done),by repeat (first|exact Drawn0.refl _|apply Drawn0.step)⟩
mutual
def impl_isName.j0 : Nat → ByteArray → Bool → Option (Bool)
 | 0,_,_ => none
 | k + 1,x0,x15 => if x15 = true then (some false) else (impl_isName.l0 k x0 (x0.size : Int) 0)
def impl_isName.l0 : Nat → ByteArray → Int → Int → Option (Bool)
 | 0,_,_,_ => none
 | k + 1,x0,x17,x18 => if x18 < x17 then (if 0 ≤ x18 then (if x18 < (x0.size : Int) then ((impl_wordByte.f (bt x0 x18)).bind fun t1002 => (if t1002 = true then (impl_isName.l0 k x0 x17 (wrap64 (x18 + 1))) else (some false))) else (none)) else (none)) else (some true)
end
def impl_isName.f (k : Nat) (a0 : ByteArray) : Option (Bool):=if a0.toList = ([] : List UInt8) then (impl_isName.j0 k a0 true) else (if (a0.size : Int) > 40 then (impl_isName.j0 k a0 true) else (if 0 < (a0.size : Int) then ((impl_digitByte.f (bt a0 0)).bind fun t1001 => (impl_isName.j0 k a0 t1001)) else (none)))
theorem impl_isName.mono_l : ∀ k,(∀ y0 y1,LeO (impl_isName.j0 k y0 y1) (impl_isName.j0 (k + 1) y0 y1)) ∧ (∀ y0 y1 y2,LeO (impl_isName.l0 k y0 y1 y2) (impl_isName.l0 (k + 1) y0 y1 y2))
 | 0 => ⟨fun _ _ r h => by simp [impl_isName.j0] at h,fun _ _ _ r h => by simp [impl_isName.l0] at h⟩
 | k + 1 => by
  obtain ⟨ih0,ih1⟩:=impl_isName.mono_l k
  refine ⟨?_,?_⟩
  ·intro y0 y1
   unfold impl_isName.j0
   repeat' with_reducible first|apply ih0|apply ih1|apply LeO.refl|apply LeO.none|apply LeO.ite|refine LeO.bind ?_ (fun _ => ?_)
  ·intro y0 y1 y2
   unfold impl_isName.l0
   repeat' with_reducible first|apply ih0|apply ih1|apply LeO.refl|apply LeO.none|apply LeO.ite|refine LeO.bind ?_ (fun _ => ?_)
theorem impl_isName.mono : ∀ a0 k,LeO (impl_isName.f k a0) (impl_isName.f (k + 1) a0):=by
 intro a0 k
 obtain ⟨ih0,ih1⟩:=impl_isName.mono_l k
 unfold impl_isName.f
 repeat' with_reducible first|apply ih0|apply ih1|apply LeO.refl|apply LeO.none|apply LeO.ite|refine LeO.bind ?_ (fun _ => ?_)
theorem impl_isName.calls (k : Nat) (a0 : ByteArray) (r : Bool) (w : World) (h : impl_isName.f k a0 = some r) :
  Calls Try.prog 59 #[.string a0] w fun e w' => e = .returned (.bool r) ∧ Drawn0 w w':=by
 have H:=h;clear h;unfold impl_isName.f at H;have HC2:=am_ H;clear H;go_enter Try.func59,Try.ntmps59;go_upto_region 1 with (fail)
 go_cut [15] (fun v15 wc => ∃ (kq : Nat) (x15_1 : Bool),v15 = .bool x15_1 ∧ Aside0 (impl_isName.j0 kq a0 x15_1 = some r) ∧ Aside0 (kq ≤ k) ∧ Drawn0 w wc)
 case first =>
  have H:=HC2.out;clear HC2
  by_cases c3 : a0.toList = ([] : List UInt8)
  ·rw [if_pos c3] at H;have c3b0:=eb_ c3;have c3b1:=en_ c3;clear c3;(first|rw [c3b0]|(simp only [i64_w,i32_w];rw [c3b0])|skip);have H':=am_ H;clear H;go_wp2;go_meet
   case rel => exact ⟨_,(true),rs_,H',⟨by first|omega|exact Nat.le_refl _⟩,by repeat (first|exact Drawn0.refl _|apply Drawn0.step)⟩
  ·rw [if_neg c3] at H;have c3b0:=nb_ c3;have c3b1:=nn_ c3;(first|rw [c3b0]|(simp only [i64_w,i32_w];rw [c3b0])|skip)
   by_cases c4 : (a0.size : Int) > 40
   ·rw [if_pos c4] at H;have c4b0:=dg_ c4;have c4b1 : decide (40 < a0.size) = true:=decide_eq_true (by omega);clear c4;have H':=am_ H;clear H;go_wp2;go_meet
    case rel => exact ⟨_,(true),rs_,H',⟨by first|omega|exact Nat.le_refl _⟩,by repeat (first|exact Drawn0.refl _|apply Drawn0.step)⟩
   ·rw [if_neg c4] at H;have c4b0:=df_ c4;have c4b1 : decide (40 < a0.size) = false:=decide_eq_false (by omega);clear c4;replace H:=is_ H;obtain ⟨c5,H⟩:=H;have c5b0:=decide_eq_true c5;have c5b1 : decide (0 < a0.size) = true:=decide_eq_true (by omega);clear c5;replace H:=bs_ H;obtain ⟨t1001,A7,H⟩:=H;have H':=am_ H;clear H;have p6 : 0 ≤ (0 : Int):=(by omega);have q6 : 0 < a0.size:=(by have : (0 : Int) < (a0.size : Int):=od_;omega);have hx6 : ∀ h : 0 < a0.size,((a0[0]'h).toNat : Int) = bt a0 0:=bt_at a0 0;clear p6;have qi6 : (0 < (a0.size : Int)) = True:=eq_true (od_);replace q6:=eq_true q6;go_wp2_with (first|(go_at_call 99;(with_reducible refine (impl_digitByte.calls (bt a0 0) t1001 _ A7.out).mono ?_);rintro e w' ⟨rfl,⟨nd,rfl⟩⟩));go_meet
    case rel => exact ⟨_,(t1001),rs_,H',⟨by first|omega|exact Nat.le_refl _⟩,by repeat (first|exact Drawn0.refl _|apply Drawn0.step)⟩
 case rest =>
  clear HC2;obtain ⟨kq,x15_1,rfl,HA,HJ1,⟨mc1,rfl⟩⟩:=hcut
  cases kq with
  | zero => exact absurd HA.out (by simp [impl_isName.j0])
  | succ kj1 =>
   have H:=HA.out;clear HA;simp only [impl_isName.j0] at H
   by_cases c8 : x15_1 = true
   ·subst c8;replace H:=it_ H;obtain rfl:=si_ H;go_wp2;go_ret;exact ⟨by first|rfl|(simp;done)|(simp [*];done),by repeat (first|exact Drawn0.refl _|apply Drawn0.step)⟩
   ·replace c8:=Bool.eq_false_iff.mpr c8;subst c8;replace H:=if_ H;have H':=am_ H;clear H;go_wp2
    go_loopg [18] kj1 (fun kq v18 w' => ∃ (x18_2 : Int),v18 = .int .i64 x18_2 ∧ Aside0 (impl_isName.l0 kq a0 (a0.size : Int) x18_2 = some r) ∧ Aside0 (kq ≤ kj1) ∧ Drawn0 w w')
    case atStart => exact ⟨(0),rs_,H',⟨Nat.le_refl _⟩,by repeat (first|exact Drawn0.refl _|apply Drawn0.step)⟩
    case round =>
     clear H';(try clear c8);obtain ⟨x18_2,rfl,HA,HK2,⟨m2,rfl⟩⟩:=hrel
     cases gk with
     | zero => exact absurd HA.out (by simp [impl_isName.l0])
     | succ k2 =>
      have H:=HA.out;clear HA;simp only [impl_isName.l0] at H
      by_cases c9 : x18_2 < (a0.size : Int)
      ·rw [if_pos c9] at H;have c9b0:=decide_eq_true c9;clear c9;replace H:=is_ H;obtain ⟨c10,H⟩:=H;have c10b0:=decide_eq_true c10;clear c10;replace H:=is_ H;obtain ⟨c11,H⟩:=H;have c11b0:=decide_eq_true c11;clear c11;replace H:=bs_ H;obtain ⟨t1002,A13,H⟩:=H
       by_cases c14 : t1002 = true
       ·subst c14;replace H:=it_ H;have H':=am_ H;clear H;have p12 : 0 ≤ (x18_2 : Int):=od_;have q12 : x18_2 < (a0.size : Int):=od_;have hx12:=bt_at a0 x18_2;replace p12:=eq_true p12;replace q12:=eq_true q12;go_wp2_with (first|((with_reducible refine gate_callee (f:=100) rfl ?_);refine gl_ 24 Try.func100 #[.int .u8 (bt a0 x18_2)] ?_;(with_reducible refine (impl_wordByte.calls (bt a0 x18_2) true _ A13.out).mono ?_);rintro e w' ⟨rfl,⟨nd,rfl⟩⟩;refine ⟨_,rfl,?_⟩));go_roundg k2
        case measure => have:=HJ1.out;have:=HK2.out;omega
        case rel => exact ⟨(wrap64 (x18_2 + 1)),rs_,H',⟨by have:=HJ1.out;have:=HK2.out;omega⟩,by repeat (first|exact Drawn0.refl _|apply Drawn0.step)⟩
       ·replace c14:=Bool.eq_false_iff.mpr c14;subst c14;replace H:=if_ H;obtain rfl:=si_ H;have p12 : 0 ≤ (x18_2 : Int):=od_;have q12 : x18_2 < (a0.size : Int):=od_;have hx12:=bt_at a0 x18_2;replace p12:=eq_true p12;replace q12:=eq_true q12;go_wp2_with (first|((with_reducible refine gate_callee (f:=100) rfl ?_);refine gl_ 24 Try.func100 #[.int .u8 (bt a0 x18_2)] ?_;(with_reducible refine (impl_wordByte.calls (bt a0 x18_2) false _ A13.out).mono ?_);rintro e w' ⟨rfl,⟨nd,rfl⟩⟩;refine ⟨_,rfl,?_⟩));go_ret;exact ⟨by first|rfl|(simp;done)|(simp [*];done),by repeat (first|exact Drawn0.refl _|apply Drawn0.step)⟩
      ·rw [if_neg c9] at H;have c9b0:=decide_eq_false c9;clear c9;obtain rfl:=si_ H;go_wp2;go_ret;exact ⟨by first|rfl|(simp;done)|(simp [*];done),by repeat (first|exact Drawn0.refl _|apply Drawn0.step)⟩
def impl_printed.l0 : Nat → ByteArray → Int → Int → Option (Bool)
 | 0,_,_,_ => none
 | k + 1,x0,x11,x12 => if x12 < x11 then (if 0 ≤ x12 then (if x12 < (x0.size : Int) then (if (bt x0 x12) < 32 then (some false) else (if (bt x0 x12) > 126 then (some false) else (impl_printed.l0 k x0 x11 (wrap64 (x12 + 1))))) else (none)) else (none)) else (some true)
def impl_printed.f (k : Nat) (a0 : ByteArray) (a1 : Int) : Option (Bool):=if (a0.size : Int) > a1 then (some false) else (impl_printed.l0 k a0 (a0.size : Int) 0)
theorem impl_printed.mono_l : ∀ k,(∀ y0 y1 y2,LeO (impl_printed.l0 k y0 y1 y2) (impl_printed.l0 (k + 1) y0 y1 y2))
 | 0 => fun _ _ _ r h => by simp [impl_printed.l0] at h
 | k + 1 => by
  have ih0:=impl_printed.mono_l k
  ·intro y0 y1 y2
   unfold impl_printed.l0
   repeat' with_reducible first|apply ih0|apply LeO.refl|apply LeO.none|apply LeO.ite|refine LeO.bind ?_ (fun _ => ?_)
theorem impl_printed.mono : ∀ a0 a1 k,LeO (impl_printed.f k a0 a1) (impl_printed.f (k + 1) a0 a1):=by
 intro a0 a1 k
 have ih0:=impl_printed.mono_l k
 unfold impl_printed.f
 repeat' with_reducible first|apply ih0|apply LeO.refl|apply LeO.none|apply LeO.ite|refine LeO.bind ?_ (fun _ => ?_)
theorem impl_printed.calls (k : Nat) (a0 : ByteArray) (a1 : Int) (r : Bool) (w : World) (h : impl_printed.f k a0 a1 = some r) :
  Calls Try.prog 95 #[.string a0,.int .i64 a1] w fun e w' => e = .returned (.bool r) ∧ Drawn0 w w':=by
 have H:=h;clear h;unfold impl_printed.f at H
 by_cases c3 : (a0.size : Int) > a1
 ·rw [if_pos c3] at H;have c3b0:=dg_ c3;clear c3;obtain rfl:=si_ H;go_enter Try.func95,Try.ntmps95;go_wp2;go_ret;exact ⟨by first|rfl|(simp;done)|(simp [*];done),by repeat (first|exact Drawn0.refl _|apply Drawn0.step)⟩
 ·rw [if_neg c3] at H;have c3b0:=df_ c3;clear c3;have H':=am_ H;clear H;go_enter Try.func95,Try.ntmps95;go_wp2
  go_loopg [12] k (fun kq v12 w' => ∃ (x12_1 : Int),v12 = .int .i64 x12_1 ∧ Aside0 (impl_printed.l0 kq a0 (a0.size : Int) x12_1 = some r) ∧ Aside0 (kq ≤ k) ∧ Drawn0 w w')
  case atStart => exact ⟨(0),rs_,H',⟨Nat.le_refl _⟩,by repeat (first|exact Drawn0.refl _|apply Drawn0.step)⟩
  case round =>
   clear H';(try clear c3);(try clear c3b0);obtain ⟨x12_1,rfl,HA,HK1,⟨m1,rfl⟩⟩:=hrel
   cases gk with
   | zero => exact absurd HA.out (by simp [impl_printed.l0])
   | succ k1 =>
    have H:=HA.out;clear HA;simp only [impl_printed.l0] at H
    by_cases c4 : x12_1 < (a0.size : Int)
    ·rw [if_pos c4] at H;have c4b0:=decide_eq_true c4;clear c4;replace H:=is_ H;obtain ⟨c5,H⟩:=H;have c5b0:=decide_eq_true c5;clear c5;replace H:=is_ H;obtain ⟨c6,H⟩:=H;have c6b0:=decide_eq_true c6;clear c6
     by_cases c8 : (bt a0 x12_1) < 32
     ·rw [if_pos c8] at H;have c8b0:=decide_eq_true c8;clear c8;obtain rfl:=si_ H;have p7 : 0 ≤ (x12_1 : Int):=od_;have q7 : x12_1 < (a0.size : Int):=od_;have hx7:=bt_at a0 x12_1;replace p7:=eq_true p7;replace q7:=eq_true q7;go_wp2;go_ret;exact ⟨by first|rfl|(simp;done)|(simp [*];done),by repeat (first|exact Drawn0.refl _|apply Drawn0.step)⟩
     ·rw [if_neg c8] at H;have c8b0:=decide_eq_false c8;clear c8
      by_cases c10 : (bt a0 x12_1) > 126
      ·rw [if_pos c10] at H;have c10b0:=dg_ c10;clear c10;obtain rfl:=si_ H;have p7 : 0 ≤ (x12_1 : Int):=od_;have q7 : x12_1 < (a0.size : Int):=od_;have hx7:=bt_at a0 x12_1;replace p7:=eq_true p7;replace q7:=eq_true q7;have p9 : 0 ≤ (x12_1 : Int):=od_;have q9 : x12_1 < (a0.size : Int):=od_;have hx9:=bt_at a0 x12_1;replace p9:=eq_true p9;replace q9:=eq_true q9;go_wp2;go_ret;exact ⟨by first|rfl|(simp;done)|(simp [*];done),by repeat (first|exact Drawn0.refl _|apply Drawn0.step)⟩
      ·rw [if_neg c10] at H;have c10b0:=df_ c10;clear c10;have H':=am_ H;clear H;have p7 : 0 ≤ (x12_1 : Int):=od_;have q7 : x12_1 < (a0.size : Int):=od_;have hx7:=bt_at a0 x12_1;replace p7:=eq_true p7;replace q7:=eq_true q7;have p9 : 0 ≤ (x12_1 : Int):=od_;have q9 : x12_1 < (a0.size : Int):=od_;have hx9:=bt_at a0 x12_1;replace p9:=eq_true p9;replace q9:=eq_true q9;go_wp2;go_roundg k1
       case measure => have:=HK1.out;omega
       case rel => exact ⟨(wrap64 (x12_1 + 1)),rs_,H',⟨by have:=HK1.out;omega⟩,by repeat (first|exact Drawn0.refl _|apply Drawn0.step)⟩
    ·rw [if_neg c4] at H;have c4b0:=decide_eq_false c4;clear c4;obtain rfl:=si_ H;go_wp2;go_ret;exact ⟨by first|rfl|(simp;done)|(simp [*];done),by repeat (first|exact Drawn0.refl _|apply Drawn0.step)⟩
def impl_isValue.f (k : Nat) (a0 : ByteArray) : Option (Bool):=if a0.toList = ([] : List UInt8) then (some false) else ((impl_printed.f k a0 100).bind fun t1001 => (some t1001))
theorem impl_isValue.mono : ∀ a0 k,LeO (impl_isValue.f k a0) (impl_isValue.f (k + 1) a0):=by
 intro a0 k
 unfold impl_isValue.f
 repeat' with_reducible first|apply impl_printed.mono|apply LeO.refl|apply LeO.none|apply LeO.ite|refine LeO.bind ?_ (fun _ => ?_)
theorem impl_isValue.calls (k : Nat) (a0 : ByteArray) (r : Bool) (w : World) (h : impl_isValue.f k a0 = some r) :
  Calls Try.prog 60 #[.string a0] w fun e w' => e = .returned (.bool r) ∧ Drawn0 w w':=by
 have H:=h;clear h;unfold impl_isValue.f at H
 by_cases c2 : a0.toList = ([] : List UInt8)
 ·rw [if_pos c2] at H;have c2b0:=eb_ c2;have c2b1:=en_ c2;clear c2;obtain rfl:=si_ H;go_enter Try.func60,Try.ntmps60;go_wp2;go_ret;exact ⟨by first|rfl|(simp;done)|(simp [*];done),by repeat (first|exact Drawn0.refl _|apply Drawn0.step)⟩
 ·rw [if_neg c2] at H;have c2b0:=nb_ c2;have c2b1:=nn_ c2;replace H:=bs_ H;obtain ⟨t1001,A3,H⟩:=H;obtain rfl:=si_ H;go_enter Try.func60,Try.ntmps60;go_wp2_with (first|(go_at_call 95;(with_reducible refine (impl_printed.calls k a0 100 t1001 _ A3.out).mono ?_);rintro e w' ⟨rfl,⟨nd,rfl⟩⟩));go_ret;exact ⟨by first|rfl|(simp;done)|(simp [*];done),by repeat (first|exact Drawn0.refl _|apply Drawn0.step)⟩
def impl_GoodLabels.l0 : Nat → List (S56) → List (S56) → Int → Int → Option (Bool)
 | 0,_,_,_,_ => none
 | k + 1,x0,x8,x9,x10 => if x10 < x9 then (if 0 ≤ x10 then (if x10 < (x8.length : Int) then ((impl_isName.f k ((rd_T56 x8 x10).f0)).bind fun t1003 => (if t1003 = true then ((impl_isValue.f k ((rd_T56 x8 x10).f1)).bind fun t1004 => (if t1004 = true then (if x10 > 0 then (if 0 ≤ (wrap64 (x10 - 1)) then (if (wrap64 (x10 - 1)) < (x0.length : Int) then (if ((Op.bytesLess (((rd_T56 x0 (wrap64 (x10 - 1))).f0).toList) (((rd_T56 x8 x10).f0).toList)) = true) then (impl_GoodLabels.l0 k x0 x8 x9 (wrap64 (x10 + 1))) else (some false)) else (none)) else (none)) else (impl_GoodLabels.l0 k x0 x8 x9 (wrap64 (x10 + 1)))) else (some false))) else (some false))) else (none)) else (none)) else (some true)
def impl_GoodLabels.f (k : Nat) (l0 : List (S56)) : Option (Bool):=if (l0.length : Int) > 20 then (some false) else (impl_GoodLabels.l0 k l0 l0 (l0.length : Int) 0)
theorem impl_GoodLabels.mono_l : ∀ k,(∀ y0 y1 y2 y3,LeO (impl_GoodLabels.l0 k y0 y1 y2 y3) (impl_GoodLabels.l0 (k + 1) y0 y1 y2 y3))
 | 0 => fun _ _ _ _ r h => by simp [impl_GoodLabels.l0] at h
 | k + 1 => by
  have ih0:=impl_GoodLabels.mono_l k
  ·intro y0 y1 y2 y3
   unfold impl_GoodLabels.l0
   repeat' with_reducible first|apply ih0|apply impl_isName.mono|apply impl_isValue.mono|apply LeO.refl|apply LeO.none|apply LeO.ite|refine LeO.bind ?_ (fun _ => ?_)
theorem impl_GoodLabels.mono : ∀ a0 k,LeO (impl_GoodLabels.f k a0) (impl_GoodLabels.f (k + 1) a0):=by
 intro a0 k
 have ih0:=impl_GoodLabels.mono_l k
 unfold impl_GoodLabels.f
 repeat' with_reducible first|apply ih0|apply impl_isName.mono|apply impl_isValue.mono|apply LeO.refl|apply LeO.none|apply LeO.ite|refine LeO.bind ?_ (fun _ => ?_)
theorem impl_GoodLabels.calls (k : Nat) (A0 : Option Addr) (c0 : Nat) (l0 : List (S56)) (r : Bool) (w : World) (hr0 : Kd.C k56 w A0 l0.length l0) (hc0 : l0.length ≤ c0) (h : impl_GoodLabels.f k l0 = some r) :
  Calls Try.prog 31 #[.slice A0 l0.length c0] w fun e w' => e = .returned (.bool r) ∧ Below w.heap.size w w':=by
 have hu56:=Try.underlying56;have HR0:=am_ hr0;have HC0:=am_ hc0;clear hr0 hc0;have HB:=am_ (Below.refl w.heap.size w);have H:=h;clear h;unfold impl_GoodLabels.f at H
 by_cases c2 : (l0.length : Int) > 20
 ·rw [if_pos c2] at H;have c2b0:=dg_ c2;have c2b1 : decide (20 < l0.length) = true:=decide_eq_true (by omega);clear c2;obtain rfl:=si_ H;go_enter Try.func31,Try.ntmps31;go_wp2;go_ret;exact ⟨rf_,bl_⟩
 ·rw [if_neg c2] at H;have c2b0:=df_ c2;have c2b1 : decide (20 < l0.length) = false:=decide_eq_false (by omega);clear c2;have H':=am_ H;clear H;go_enter Try.func31,Try.ntmps31;go_wp2
  go_loopg [10] k (fun kq v10 w' => ∃ (x10_1 : Int),v10 = .int .i64 x10_1 ∧ Aside0 (impl_GoodLabels.l0 kq l0 l0 (l0.length : Int) x10_1 = some r) ∧ Aside0 (kq ≤ k) ∧ Aside0 (Below w.heap.size w w'))
  case atStart => exact ⟨(0),rs_,H',⟨Nat.le_refl _⟩,⟨bl_⟩⟩
  case round =>
   clear H';(try clear c2);(try clear c2b0);(try clear c2b1);obtain ⟨x10_1,rfl,HA,HK1,HB⟩:=hrel
   cases gk with
   | zero => exact absurd HA.out (by simp [impl_GoodLabels.l0])
   | succ k1 =>
    have H:=HA.out;clear HA;simp only [impl_GoodLabels.l0] at H
    by_cases c3 : x10_1 < (l0.length : Int)
    ·rw [if_pos c3] at H;have c3b0:=decide_eq_true c3;clear c3;replace H:=is_ H;obtain ⟨c4,H⟩:=H;have c4b0:=decide_eq_true c4;clear c4;replace H:=is_ H;obtain ⟨c5,H⟩:=H;have c5b0:=decide_eq_true c5;clear c5;replace H:=bs_ H;obtain ⟨t1003,A6,H⟩:=H
     by_cases c7 : t1003 = true
     ·subst c7;replace H:=it_ H;replace H:=bs_ H;obtain ⟨t1004,A8,H⟩:=H
      by_cases c9 : t1004 = true
      ·subst c9;replace H:=it_ H
       by_cases c10 : x10_1 > 0
       ·rw [if_pos c10] at H;have c10b0:=dg_ c10;clear c10;obtain ⟨ji11,hji11⟩ : ∃ j_ : Int,(wrap64 (x10_1 - 1)) = j_:=⟨_,rfl⟩;replace H : (if 0 ≤ (ji11) then (if (ji11) < (l0.length : Int) then (if ((Op.bytesLess (((rd_T56 l0 (ji11)).f0).toList) (((rd_T56 l0 x10_1).f0).toList)) = true) then (impl_GoodLabels.l0 k1 l0 l0 (l0.length : Int) (wrap64 (x10_1 + 1))) else (some false)) else (none)) else (none)) = some r:=by first|(rw [hji11] at H;exact H)|(simp only [hji11] at H ⊢;exact H)
        (try rw [hji11] at A6);(try rw [hji11] at A8);have hji11w : (IntKind.i64.wrap (x10_1 - 1)) = ji11:=(i64_w _).trans hji11;replace H:=is_ H;obtain ⟨c12,H⟩:=H;have c12b0:=decide_eq_true c12;clear c12;replace H:=is_ H;obtain ⟨c13,H⟩:=H;have c13b0:=decide_eq_true c13;clear c13
        by_cases c14 : ((Op.bytesLess (((rd_T56 l0 (ji11)).f0).toList) (((rd_T56 l0 x10_1).f0).toList)) = true)
        ·rw [if_pos c14] at H;have c14b0 : (Op.bytesLess (((rd_T56 l0 (ji11)).f0).toList) (((rd_T56 l0 x10_1).f0).toList)) = true:=c14;clear c14;have H':=am_ H;clear H;have p1001 : 0 ≤ (x10_1 : Int):=od_;have q1001 : x10_1 < (l0.length : Int):=od_;obtain ⟨ad1001,e1001,hx1001_0,hx1001_1⟩:=at_T56 HR0.out x10_1 p1001 q1001
         cases e1001
         replace hx1001_0:=kp_ HB hx1001_0;replace hx1001_1:=kp_ HB hx1001_1;replace p1001:=eq_true p1001;replace q1001:=eq_true q1001;go_wp2_with (first|((with_reducible refine gate_dst (N:=4) rfl ?_);refine bx_ 4 #[.string (⟨#[]⟩ : ByteArray),.string (⟨#[]⟩ : ByteArray)] 56 ?_;intro gb1002 hg w15 hbox hb;have BK1002:=am_ (hbox);have GW1002:=am_ (gs_ hg : w.heap.size ≤ gb1002);replace HB:=am_ (below_step bl_ hb);have GE1002:=GW1002;clear hb hbox hg;have hz16:=bk2_ BK1002));(repeat (go_quiet (first|(go_at_call 59;(with_reducible refine (impl_isName.calls k1 ((rd_T56 l0 x10_1).f0) true _ A6.out).mono ?_);rintro e w' ⟨rfl,⟨nd,rfl⟩⟩;(try exact dd_))|(go_at_call 60;(with_reducible refine (impl_isValue.calls k1 ((rd_T56 l0 x10_1).f1) true _ A8.out).mono ?_);rintro e w' ⟨rfl,⟨nd,rfl⟩⟩;(try exact dd_);have p1005 : 0 ≤ ((ji11) : Int):=od_;have q1005 : (ji11) < (l0.length : Int):=od_;obtain ⟨ad1005,e1005,hx1005_0,hx1005_1⟩:=at_T56 HR0.out (ji11) p1005 q1005;obtain rfl : ad1001 = ad1005:=(by injection e1005);have hn1005_0 : ad1001.block ≠ gb1002:=hb_ hx1005_0 GW1002;have hn1005_1 : ad1001.block ≠ gb1002:=hb_ hx1005_0 GW1002;replace hx1005_0:=kp_ HB hx1005_0;replace hx1005_1:=kp_ HB hx1005_1;replace hx1005_0:=cf_ gb1002 0 hn1005_0 (.string ((rd_T56 l0 x10_1).f0)) hx1005_0;replace hx1005_1:=cf_ gb1002 0 hn1005_0 (.string ((rd_T56 l0 x10_1).f0)) hx1005_1;replace hx1005_0:=cf_ gb1002 1 hn1005_1 (.string ((rd_T56 l0 x10_1).f1)) hx1005_0;replace hx1005_1:=cf_ gb1002 1 hn1005_1 (.string ((rd_T56 l0 x10_1).f1)) hx1005_1;(try have hy1005_0:=fun (n_ : Nat) => (show ((((w15.drewN n_).setCell ⟨gb1002,0,none⟩ (.string ((rd_T56 l0 x10_1).f0))).setCell ⟨gb1002,1,none⟩ (.string ((rd_T56 l0 x10_1).f1)))).cell? _ = some _ from hx1005_0));(try have hy1005_1:=fun (n_ : Nat) => (show ((((w15.drewN n_).setCell ⟨gb1002,0,none⟩ (.string ((rd_T56 l0 x10_1).f0))).setCell ⟨gb1002,1,none⟩ (.string ((rd_T56 l0 x10_1).f1)))).cell? _ = some _ from hx1005_1));clear hn1005_0;clear hn1005_1;replace p1005:=eq_true p1005;replace q1005:=eq_true q1005));try go_wp2));go_roundg k1
         case measure => have:=HK1.out;omega
         case rel => exact ⟨(wrap64 (x10_1 + 1)),rs_,H',⟨by have:=HK1.out;omega⟩,⟨bg_⟩⟩
        ·rw [if_neg c14] at H;have c14b0 : (Op.bytesLess (((rd_T56 l0 (ji11)).f0).toList) (((rd_T56 l0 x10_1).f0).toList)) = false:=by simpa using c14
         clear c14;obtain rfl:=si_ H;have p1001 : 0 ≤ (x10_1 : Int):=od_;have q1001 : x10_1 < (l0.length : Int):=od_;obtain ⟨ad1001,e1001,hx1001_0,hx1001_1⟩:=at_T56 HR0.out x10_1 p1001 q1001
         cases e1001
         replace hx1001_0:=kp_ HB hx1001_0;replace hx1001_1:=kp_ HB hx1001_1;replace p1001:=eq_true p1001;replace q1001:=eq_true q1001;go_wp2_with (first|((with_reducible refine gate_dst (N:=4) rfl ?_);refine bx_ 4 #[.string (⟨#[]⟩ : ByteArray),.string (⟨#[]⟩ : ByteArray)] 56 ?_;intro gb1002 hg w17 hbox hb;have BK1002:=am_ (hbox);have GW1002:=am_ (gs_ hg : w.heap.size ≤ gb1002);replace HB:=am_ (below_step bl_ hb);have GE1002:=GW1002;clear hb hbox hg;have hz18:=bk2_ BK1002));(repeat (go_quiet (first|(go_at_call 59;(with_reducible refine (impl_isName.calls k1 ((rd_T56 l0 x10_1).f0) true _ A6.out).mono ?_);rintro e w' ⟨rfl,⟨nd,rfl⟩⟩;(try exact dd_))|(go_at_call 60;(with_reducible refine (impl_isValue.calls k1 ((rd_T56 l0 x10_1).f1) true _ A8.out).mono ?_);rintro e w' ⟨rfl,⟨nd,rfl⟩⟩;(try exact dd_);have p1005 : 0 ≤ ((ji11) : Int):=od_;have q1005 : (ji11) < (l0.length : Int):=od_;obtain ⟨ad1005,e1005,hx1005_0,hx1005_1⟩:=at_T56 HR0.out (ji11) p1005 q1005;obtain rfl : ad1001 = ad1005:=(by injection e1005);have hn1005_0 : ad1001.block ≠ gb1002:=hb_ hx1005_0 GW1002;have hn1005_1 : ad1001.block ≠ gb1002:=hb_ hx1005_0 GW1002;replace hx1005_0:=kp_ HB hx1005_0;replace hx1005_1:=kp_ HB hx1005_1;replace hx1005_0:=cf_ gb1002 0 hn1005_0 (.string ((rd_T56 l0 x10_1).f0)) hx1005_0;replace hx1005_1:=cf_ gb1002 0 hn1005_0 (.string ((rd_T56 l0 x10_1).f0)) hx1005_1;replace hx1005_0:=cf_ gb1002 1 hn1005_1 (.string ((rd_T56 l0 x10_1).f1)) hx1005_0;replace hx1005_1:=cf_ gb1002 1 hn1005_1 (.string ((rd_T56 l0 x10_1).f1)) hx1005_1;(try have hy1005_0:=fun (n_ : Nat) => (show ((((w17.drewN n_).setCell ⟨gb1002,0,none⟩ (.string ((rd_T56 l0 x10_1).f0))).setCell ⟨gb1002,1,none⟩ (.string ((rd_T56 l0 x10_1).f1)))).cell? _ = some _ from hx1005_0));(try have hy1005_1:=fun (n_ : Nat) => (show ((((w17.drewN n_).setCell ⟨gb1002,0,none⟩ (.string ((rd_T56 l0 x10_1).f0))).setCell ⟨gb1002,1,none⟩ (.string ((rd_T56 l0 x10_1).f1)))).cell? _ = some _ from hx1005_1));clear hn1005_0;clear hn1005_1;replace p1005:=eq_true p1005;replace q1005:=eq_true q1005));try go_wp2));go_ret;exact ⟨by first|rfl|(simp [errW_none,errW_some] <;> rfl)|(simp only [← hji11];first|rfl|(simp [errW_none,errW_some] <;> rfl))|(simp [*,errW_none,errW_some] <;> rfl)|(simp [*,Go.Proofs.Ytfdbbpnmnogddaa.Gt.nil_bne];done),bg_⟩
       ·rw [if_neg c10] at H;have c10b0:=df_ c10;clear c10;have H':=am_ H;clear H;have p1001 : 0 ≤ (x10_1 : Int):=od_;have q1001 : x10_1 < (l0.length : Int):=od_;obtain ⟨ad1001,e1001,hx1001_0,hx1001_1⟩:=at_T56 HR0.out x10_1 p1001 q1001
        cases e1001
        replace hx1001_0:=kp_ HB hx1001_0;replace hx1001_1:=kp_ HB hx1001_1;replace p1001:=eq_true p1001;replace q1001:=eq_true q1001;go_wp2_with (first|((with_reducible refine gate_dst (N:=4) rfl ?_);refine bx_ 4 #[.string (⟨#[]⟩ : ByteArray),.string (⟨#[]⟩ : ByteArray)] 56 ?_;intro gb1002 hg w19 hbox hb;have BK1002:=am_ (hbox);have GW1002:=am_ (gs_ hg : w.heap.size ≤ gb1002);replace HB:=am_ (below_step bl_ hb);have GE1002:=GW1002;clear hb hbox hg;have hz20:=bk2_ BK1002));(repeat (go_quiet (first|(go_at_call 59;(with_reducible refine (impl_isName.calls k1 ((rd_T56 l0 x10_1).f0) true _ A6.out).mono ?_);rintro e w' ⟨rfl,⟨nd,rfl⟩⟩;(try exact dd_))|(go_at_call 60;(with_reducible refine (impl_isValue.calls k1 ((rd_T56 l0 x10_1).f1) true _ A8.out).mono ?_);rintro e w' ⟨rfl,⟨nd,rfl⟩⟩;(try exact dd_)));try go_wp2));go_roundg k1
        case measure => have:=HK1.out;omega
        case rel => exact ⟨(wrap64 (x10_1 + 1)),rs_,H',⟨by have:=HK1.out;omega⟩,⟨bg_⟩⟩
      ·replace c9:=Bool.eq_false_iff.mpr c9;subst c9;replace H:=if_ H;obtain rfl:=si_ H;have p1001 : 0 ≤ (x10_1 : Int):=od_;have q1001 : x10_1 < (l0.length : Int):=od_;obtain ⟨ad1001,e1001,hx1001_0,hx1001_1⟩:=at_T56 HR0.out x10_1 p1001 q1001
       cases e1001
       replace hx1001_0:=kp_ HB hx1001_0;replace hx1001_1:=kp_ HB hx1001_1;replace p1001:=eq_true p1001;replace q1001:=eq_true q1001;go_wp2_with (first|((with_reducible refine gate_dst (N:=4) rfl ?_);refine bx_ 4 #[.string (⟨#[]⟩ : ByteArray),.string (⟨#[]⟩ : ByteArray)] 56 ?_;intro gb1002 hg w21 hbox hb;have BK1002:=am_ (hbox);have GW1002:=am_ (gs_ hg : w.heap.size ≤ gb1002);replace HB:=am_ (below_step bl_ hb);have GE1002:=GW1002;clear hb hbox hg;have hz22:=bk2_ BK1002));(repeat (go_quiet (first|(go_at_call 59;(with_reducible refine (impl_isName.calls k1 ((rd_T56 l0 x10_1).f0) true _ A6.out).mono ?_);rintro e w' ⟨rfl,⟨nd,rfl⟩⟩;(try exact dd_))|(go_at_call 60;(with_reducible refine (impl_isValue.calls k1 ((rd_T56 l0 x10_1).f1) false _ A8.out).mono ?_);rintro e w' ⟨rfl,⟨nd,rfl⟩⟩;(try exact dd_)));try go_wp2));go_ret;exact ⟨rf_,bg_⟩
     ·replace c7:=Bool.eq_false_iff.mpr c7;subst c7;replace H:=if_ H;obtain rfl:=si_ H;have p1001 : 0 ≤ (x10_1 : Int):=od_;have q1001 : x10_1 < (l0.length : Int):=od_;obtain ⟨ad1001,e1001,hx1001_0,hx1001_1⟩:=at_T56 HR0.out x10_1 p1001 q1001
      cases e1001
      replace hx1001_0:=kp_ HB hx1001_0;replace hx1001_1:=kp_ HB hx1001_1;replace p1001:=eq_true p1001;replace q1001:=eq_true q1001;go_wp2_with (first|((with_reducible refine gate_dst (N:=4) rfl ?_);refine bx_ 4 #[.string (⟨#[]⟩ : ByteArray),.string (⟨#[]⟩ : ByteArray)] 56 ?_;intro gb1002 hg w23 hbox hb;have BK1002:=am_ (hbox);have GW1002:=am_ (gs_ hg : w.heap.size ≤ gb1002);replace HB:=am_ (below_step bl_ hb);have GE1002:=GW1002;clear hb hbox hg;have hz24:=bk2_ BK1002));(repeat (go_quiet (first|(go_at_call 59;(with_reducible refine (impl_isName.calls k1 ((rd_T56 l0 x10_1).f0) false _ A6.out).mono ?_);rintro e w' ⟨rfl,⟨nd,rfl⟩⟩;(try exact dd_)));try go_wp2));go_ret;exact ⟨rf_,bg_⟩
    ·rw [if_neg c3] at H;have c3b0:=decide_eq_false c3;clear c3;obtain rfl:=si_ H;go_wp2;go_ret;exact ⟨rf_,bl_⟩
def impl_valueOf.l0 : Nat → ByteArray → List (S56) → Int → Int → Option (ByteArray)
 | 0,_,_,_,_ => none
 | k + 1,x1,x7,x8,x9 => if x9 < x8 then (if 0 ≤ x9 then (if x9 < (x7.length : Int) then (if ((rd_T56 x7 x9).f0).toList = x1.toList then (some ((rd_T56 x7 x9).f1)) else (impl_valueOf.l0 k x1 x7 x8 (wrap64 (x9 + 1)))) else (none)) else (none)) else (some (⟨#[]⟩ : ByteArray))
def impl_valueOf.f (k : Nat) (l0 : List (S56)) (a1 : ByteArray) : Option (ByteArray):=impl_valueOf.l0 k a1 l0 (l0.length : Int) 0
theorem impl_valueOf.mono_l : ∀ k,(∀ y0 y1 y2 y3,LeO (impl_valueOf.l0 k y0 y1 y2 y3) (impl_valueOf.l0 (k + 1) y0 y1 y2 y3))
 | 0 => fun _ _ _ _ r h => by simp [impl_valueOf.l0] at h
 | k + 1 => by
  have ih0:=impl_valueOf.mono_l k
  ·intro y0 y1 y2 y3
   unfold impl_valueOf.l0
   repeat' with_reducible first|apply ih0|apply LeO.refl|apply LeO.none|apply LeO.ite|refine LeO.bind ?_ (fun _ => ?_)
theorem impl_valueOf.mono : ∀ a0 a1 k,LeO (impl_valueOf.f k a0 a1) (impl_valueOf.f (k + 1) a0 a1):=by
 intro a0 a1 k
 have ih0:=impl_valueOf.mono_l k
 unfold impl_valueOf.f
 repeat' with_reducible first|apply ih0|apply LeO.refl|apply LeO.none|apply LeO.ite|refine LeO.bind ?_ (fun _ => ?_)
theorem impl_valueOf.calls (k : Nat) (A0 : Option Addr) (c0 : Nat) (l0 : List (S56)) (a1 : ByteArray) (r : ByteArray) (w : World) (hr0 : Kd.C k56 w A0 l0.length l0) (hc0 : l0.length ≤ c0) (h : impl_valueOf.f k l0 a1 = some r) :
  Calls Try.prog 55 #[.slice A0 l0.length c0,.string a1] w fun e w' => e = .returned (.string r) ∧ Below w.heap.size w w':=by
 have hu56:=Try.underlying56;have HR0:=am_ hr0;have HC0:=am_ hc0;clear hr0 hc0;have HB:=am_ (Below.refl w.heap.size w);have H:=h;clear h;unfold impl_valueOf.f at H;have H':=am_ H;clear H;go_enter Try.func55,Try.ntmps55;go_wp2
 go_loopg [9] k (fun kq v9 w' => ∃ (x9_1 : Int),v9 = .int .i64 x9_1 ∧ Aside0 (impl_valueOf.l0 kq a1 l0 (l0.length : Int) x9_1 = some r) ∧ Aside0 (kq ≤ k) ∧ Aside0 (Below w.heap.size w w'))
 case atStart => exact ⟨(0),rs_,H',⟨Nat.le_refl _⟩,⟨bl_⟩⟩
 case round =>
  clear H';obtain ⟨x9_1,rfl,HA,HK1,HB⟩:=hrel
  cases gk with
  | zero => exact absurd HA.out (by simp [impl_valueOf.l0])
  | succ k1 =>
   have H:=HA.out;clear HA;simp only [impl_valueOf.l0] at H
   by_cases c3 : x9_1 < (l0.length : Int)
   ·rw [if_pos c3] at H;have c3b0:=decide_eq_true c3;clear c3;replace H:=is_ H;obtain ⟨c4,H⟩:=H;have c4b0:=decide_eq_true c4;clear c4;replace H:=is_ H;obtain ⟨c5,H⟩:=H;have c5b0:=decide_eq_true c5;clear c5
    by_cases c6 : ((rd_T56 l0 x9_1).f0).toList = a1.toList
    ·rw [if_pos c6] at H;have c6b0:=eb_ c6;have c6b1:=en_ c6;clear c6;obtain rfl:=si_ H;have p1001 : 0 ≤ (x9_1 : Int):=od_;have q1001 : x9_1 < (l0.length : Int):=od_;obtain ⟨ad1001,e1001,hx1001_0,hx1001_1⟩:=at_T56 HR0.out x9_1 p1001 q1001
     cases e1001
     replace hx1001_0:=kp_ HB hx1001_0;replace hx1001_1:=kp_ HB hx1001_1;replace p1001:=eq_true p1001;replace q1001:=eq_true q1001;go_wp2_with (first|((with_reducible refine gate_dst (N:=6) rfl ?_);refine bx_ 6 #[.string (⟨#[]⟩ : ByteArray),.string (⟨#[]⟩ : ByteArray)] 56 ?_;intro gb1002 hg w7 hbox hb;have BK1002:=am_ (hbox);have GW1002:=am_ (gs_ hg : w.heap.size ≤ gb1002);replace HB:=am_ (below_step bl_ hb);have GE1002:=GW1002;clear hb hbox hg;have hz8:=bk2_ BK1002));go_ret;exact ⟨rf_,bg_⟩
    ·rw [if_neg c6] at H;have c6b0:=nb_ c6;have c6b1:=nn_ c6;have H':=am_ H;clear H;have p1001 : 0 ≤ (x9_1 : Int):=od_;have q1001 : x9_1 < (l0.length : Int):=od_;obtain ⟨ad1001,e1001,hx1001_0,hx1001_1⟩:=at_T56 HR0.out x9_1 p1001 q1001
     cases e1001
     replace hx1001_0:=kp_ HB hx1001_0;replace hx1001_1:=kp_ HB hx1001_1;replace p1001:=eq_true p1001;replace q1001:=eq_true q1001;go_wp2_with (first|((with_reducible refine gate_dst (N:=6) rfl ?_);refine bx_ 6 #[.string (⟨#[]⟩ : ByteArray),.string (⟨#[]⟩ : ByteArray)] 56 ?_;intro gb1002 hg w9 hbox hb;have BK1002:=am_ (hbox);have GW1002:=am_ (gs_ hg : w.heap.size ≤ gb1002);replace HB:=am_ (below_step bl_ hb);have GE1002:=GW1002;clear hb hbox hg;have hz10:=bk2_ BK1002));go_roundg k1
     case measure => have:=HK1.out;omega
     case rel => exact ⟨(wrap64 (x9_1 + 1)),rs_,H',⟨by have:=HK1.out;omega⟩,⟨bg_⟩⟩
   ·rw [if_neg c3] at H;have c3b0:=decide_eq_false c3;clear c3;obtain rfl:=si_ H;go_wp2;go_ret;exact ⟨rf_,bl_⟩
def impl_isTime.f (a0 : Int) : Option (Bool):=if a0 ≥ 0 then (some (decide (a0 ≤ 1000000000000))) else (some false)
theorem impl_isTime.calls (a0 : Int) (r : Bool) (w : World) (h : impl_isTime.f a0 = some r) :
  Calls Try.prog 106 #[.int .i64 a0] w fun e w' => e = .returned (.bool r) ∧ Drawn0 w w':=by
 have H:=h;clear h;unfold impl_isTime.f at H
 by_cases c2 : a0 ≥ 0
 ·rw [if_pos c2] at H;have c2b0 : decide (0 ≤ a0) = true:=decide_eq_true c2;clear c2;obtain rfl:=si_ H;go_enter Try.func106,Try.ntmps106;go_wp2;go_ret;exact ⟨by first|rfl|(simp;done)|(simp [*];done),by repeat (first|exact Drawn0.refl _|apply Drawn0.step)⟩
 ·rw [if_neg c2] at H;have c2b0 : decide (0 ≤ a0) = false:=decide_eq_false c2;clear c2;obtain rfl:=si_ H;go_enter Try.func106,Try.ntmps106;go_wp2;go_ret;exact ⟨by first|rfl|(simp;done)|(simp [*];done),by repeat (first|exact Drawn0.refl _|apply Drawn0.step)⟩
def impl_GoodSamples.l0 : Nat → List (S103) → List (S103) → Int → Int → Option (Bool)
 | 0,_,_,_,_ => none
 | k + 1,x0,x8,x9,x10 => if x10 < x9 then (if 0 ≤ x10 then (if x10 < (x8.length : Int) then ((impl_isTime.f ((rd_T103 x8 x10).f0)).bind fun t1003 => (if t1003 = true then (if x10 > 0 then (if 0 ≤ (wrap64 (x10 - 1)) then (if (wrap64 (x10 - 1)) < (x0.length : Int) then (if ((rd_T103 x0 (wrap64 (x10 - 1))).f0) ≥ ((rd_T103 x8 x10).f0) then (some false) else (impl_GoodSamples.l0 k x0 x8 x9 (wrap64 (x10 + 1)))) else (none)) else (none)) else (impl_GoodSamples.l0 k x0 x8 x9 (wrap64 (x10 + 1)))) else (some false))) else (none)) else (none)) else (some true)
def impl_GoodSamples.f (k : Nat) (l0 : List (S103)) : Option (Bool):=if (l0.length : Int) > 2000 then (some false) else (impl_GoodSamples.l0 k l0 l0 (l0.length : Int) 0)
theorem impl_GoodSamples.mono_l : ∀ k,(∀ y0 y1 y2 y3,LeO (impl_GoodSamples.l0 k y0 y1 y2 y3) (impl_GoodSamples.l0 (k + 1) y0 y1 y2 y3))
 | 0 => fun _ _ _ _ r h => by simp [impl_GoodSamples.l0] at h
 | k + 1 => by
  have ih0:=impl_GoodSamples.mono_l k
  ·intro y0 y1 y2 y3
   unfold impl_GoodSamples.l0
   repeat' with_reducible first|apply ih0|apply LeO.refl|apply LeO.none|apply LeO.ite|refine LeO.bind ?_ (fun _ => ?_)
theorem impl_GoodSamples.mono : ∀ a0 k,LeO (impl_GoodSamples.f k a0) (impl_GoodSamples.f (k + 1) a0):=by
 intro a0 k
 have ih0:=impl_GoodSamples.mono_l k
 unfold impl_GoodSamples.f
 repeat' with_reducible first|apply ih0|apply LeO.refl|apply LeO.none|apply LeO.ite|refine LeO.bind ?_ (fun _ => ?_)
theorem impl_GoodSamples.calls (k : Nat) (A0 : Option Addr) (c0 : Nat) (l0 : List (S103)) (r : Bool) (w : World) (hr0 : Kd.C k103 w A0 l0.length l0) (hc0 : l0.length ≤ c0) (h : impl_GoodSamples.f k l0 = some r) :
  Calls Try.prog 76 #[.slice A0 l0.length c0] w fun e w' => e = .returned (.bool r) ∧ Below w.heap.size w w':=by
 have hu103:=Try.underlying103;have HR0:=am_ hr0;have HC0:=am_ hc0;clear hr0 hc0;have HB:=am_ (Below.refl w.heap.size w);have H:=h;clear h;unfold impl_GoodSamples.f at H
 by_cases c2 : (l0.length : Int) > 2000
 ·rw [if_pos c2] at H;have c2b0:=dg_ c2;have c2b1 : decide (2000 < l0.length) = true:=decide_eq_true (by omega);clear c2;obtain rfl:=si_ H;go_enter Try.func76,Try.ntmps76;go_wp2;(repeat (go_quiet (fail);try go_wp2));go_ret;exact ⟨rf_,bl_⟩
 ·rw [if_neg c2] at H;have c2b0:=df_ c2;have c2b1 : decide (2000 < l0.length) = false:=decide_eq_false (by omega);clear c2;have H':=am_ H;clear H;go_enter Try.func76,Try.ntmps76;go_wp2;(repeat (go_quiet (fail);try go_wp2))
  go_loopg [10] k (fun kq v10 w' => ∃ (x10_1 : Int),v10 = .int .i64 x10_1 ∧ Aside0 (impl_GoodSamples.l0 kq l0 l0 (l0.length : Int) x10_1 = some r) ∧ Aside0 (kq ≤ k) ∧ Aside0 (Below w.heap.size w w'))
  case atStart => exact ⟨(0),rs_,H',⟨Nat.le_refl _⟩,⟨bl_⟩⟩
  case round =>
   clear H';(try clear c2);(try clear c2b0);(try clear c2b1);obtain ⟨x10_1,rfl,HA,HK1,HB⟩:=hrel
   cases gk with
   | zero => exact absurd HA.out (by simp [impl_GoodSamples.l0])
   | succ k1 =>
    have H:=HA.out;clear HA;simp only [impl_GoodSamples.l0] at H
    by_cases c3 : x10_1 < (l0.length : Int)
    ·rw [if_pos c3] at H;have c3b0:=decide_eq_true c3;clear c3;replace H:=is_ H;obtain ⟨c4,H⟩:=H;have c4b0:=decide_eq_true c4;clear c4;replace H:=is_ H;obtain ⟨c5,H⟩:=H;have c5b0:=decide_eq_true c5;clear c5;replace H:=bs_ H;obtain ⟨t1003,A6,H⟩:=H
     by_cases c7 : t1003 = true
     ·subst c7;replace H:=it_ H
      by_cases c8 : x10_1 > 0
      ·rw [if_pos c8] at H;have c8b0:=dg_ c8;clear c8;obtain ⟨ji9,hji9⟩ : ∃ j_ : Int,(wrap64 (x10_1 - 1)) = j_:=⟨_,rfl⟩;replace H : (if 0 ≤ (ji9) then (if (ji9) < (l0.length : Int) then (if ((rd_T103 l0 (ji9)).f0) ≥ ((rd_T103 l0 x10_1).f0) then (some false) else (impl_GoodSamples.l0 k1 l0 l0 (l0.length : Int) (wrap64 (x10_1 + 1)))) else (none)) else (none)) = some r:=by first|(rw [hji9] at H;exact H)|(simp only [hji9] at H ⊢;exact H)
       (try rw [hji9] at A6);have hji9w : (IntKind.i64.wrap (x10_1 - 1)) = ji9:=(i64_w _).trans hji9;replace H:=is_ H;obtain ⟨c10,H⟩:=H;have c10b0:=decide_eq_true c10;clear c10;replace H:=is_ H;obtain ⟨c11,H⟩:=H;have c11b0:=decide_eq_true c11;clear c11
       by_cases c12 : ((rd_T103 l0 (ji9)).f0) ≥ ((rd_T103 l0 x10_1).f0)
       ·rw [if_pos c12] at H;have c12b0 : decide (((rd_T103 l0 x10_1).f0) ≤ ((rd_T103 l0 (ji9)).f0)) = true:=decide_eq_true c12;clear c12;obtain rfl:=si_ H;have p1001 : 0 ≤ (x10_1 : Int):=od_;have q1001 : x10_1 < (l0.length : Int):=od_;obtain ⟨ad1001,e1001,hx1001_0,hx1001_1⟩:=at_T103 HR0.out x10_1 p1001 q1001
        cases e1001
        replace hx1001_0:=kp_ HB hx1001_0;replace hx1001_1:=kp_ HB hx1001_1;replace p1001:=eq_true p1001;replace q1001:=eq_true q1001;go_wp2_with (first|((with_reducible refine gate_dst (N:=4) rfl ?_);refine bx_ 4 #[.int .i64 0,.int .i64 0] 103 ?_;intro gb1002 hg w13 hbox hb;have BK1002:=am_ (hbox);have GW1002:=am_ (gs_ hg : w.heap.size ≤ gb1002);replace HB:=am_ (below_step bl_ hb);have GE1002:=GW1002;clear hb hbox hg;have hz14:=bk2_ BK1002)|(go_at_call 106;(with_reducible refine (impl_isTime.calls ((rd_T103 l0 x10_1).f0) true _ A6.out).mono ?_);rintro e w' ⟨rfl,⟨nd,rfl⟩⟩;(try exact dd_);have p1004 : 0 ≤ ((ji9) : Int):=od_;have q1004 : (ji9) < (l0.length : Int):=od_;obtain ⟨ad1004,e1004,hx1004_0,hx1004_1⟩:=at_T103 HR0.out (ji9) p1004 q1004;obtain rfl : ad1001 = ad1004:=(by injection e1004);have hn1004_0 : ad1001.block ≠ gb1002:=hb_ hx1004_0 GW1002;have hn1004_1 : ad1001.block ≠ gb1002:=hb_ hx1004_0 GW1002;replace hx1004_0:=kp_ HB hx1004_0;replace hx1004_1:=kp_ HB hx1004_1;replace hx1004_0:=cf_ gb1002 0 hn1004_0 (.int .i64 ((rd_T103 l0 x10_1).f0)) hx1004_0;replace hx1004_1:=cf_ gb1002 0 hn1004_0 (.int .i64 ((rd_T103 l0 x10_1).f0)) hx1004_1;replace hx1004_0:=cf_ gb1002 1 hn1004_1 (.int .i64 ((rd_T103 l0 x10_1).f1)) hx1004_0;replace hx1004_1:=cf_ gb1002 1 hn1004_1 (.int .i64 ((rd_T103 l0 x10_1).f1)) hx1004_1;(try have hy1004_0:=fun (n_ : Nat) => (show ((((w13.drewN n_).setCell ⟨gb1002,0,none⟩ (.int .i64 ((rd_T103 l0 x10_1).f0))).setCell ⟨gb1002,1,none⟩ (.int .i64 ((rd_T103 l0 x10_1).f1)))).cell? _ = some _ from hx1004_0));(try have hy1004_1:=fun (n_ : Nat) => (show ((((w13.drewN n_).setCell ⟨gb1002,0,none⟩ (.int .i64 ((rd_T103 l0 x10_1).f0))).setCell ⟨gb1002,1,none⟩ (.int .i64 ((rd_T103 l0 x10_1).f1)))).cell? _ = some _ from hx1004_1));clear hn1004_0;clear hn1004_1;replace p1004:=eq_true p1004;replace q1004:=eq_true q1004));(repeat (go_quiet (first|((with_reducible refine gate_dst (N:=4) rfl ?_);refine bx_ 4 #[.int .i64 0,.int .i64 0] 103 ?_;intro gb1002 hg w13 hbox hb;have BK1002:=am_ (hbox);have GW1002:=am_ (gs_ hg : w.heap.size ≤ gb1002);replace HB:=am_ (below_step bl_ hb);have GE1002:=GW1002;clear hb hbox hg;have hz14:=bk2_ BK1002)|(go_at_call 106;(with_reducible refine (impl_isTime.calls ((rd_T103 l0 x10_1).f0) true _ A6.out).mono ?_);rintro e w' ⟨rfl,⟨nd,rfl⟩⟩;(try exact dd_);have p1004 : 0 ≤ ((ji9) : Int):=od_;have q1004 : (ji9) < (l0.length : Int):=od_;obtain ⟨ad1004,e1004,hx1004_0,hx1004_1⟩:=at_T103 HR0.out (ji9) p1004 q1004;obtain rfl : ad1001 = ad1004:=(by injection e1004);have hn1004_0 : ad1001.block ≠ gb1002:=hb_ hx1004_0 GW1002;have hn1004_1 : ad1001.block ≠ gb1002:=hb_ hx1004_0 GW1002;replace hx1004_0:=kp_ HB hx1004_0;replace hx1004_1:=kp_ HB hx1004_1;replace hx1004_0:=cf_ gb1002 0 hn1004_0 (.int .i64 ((rd_T103 l0 x10_1).f0)) hx1004_0;replace hx1004_1:=cf_ gb1002 0 hn1004_0 (.int .i64 ((rd_T103 l0 x10_1).f0)) hx1004_1;replace hx1004_0:=cf_ gb1002 1 hn1004_1 (.int .i64 ((rd_T103 l0 x10_1).f1)) hx1004_0;replace hx1004_1:=cf_ gb1002 1 hn1004_1 (.int .i64 ((rd_T103 l0 x10_1).f1)) hx1004_1;(try have hy1004_0:=fun (n_ : Nat) => (show ((((w13.drewN n_).setCell ⟨gb1002,0,none⟩ (.int .i64 ((rd_T103 l0 x10_1).f0))).setCell ⟨gb1002,1,none⟩ (.int .i64 ((rd_T103 l0 x10_1).f1)))).cell? _ = some _ from hx1004_0));(try have hy1004_1:=fun (n_ : Nat) => (show ((((w13.drewN n_).setCell ⟨gb1002,0,none⟩ (.int .i64 ((rd_T103 l0 x10_1).f0))).setCell ⟨gb1002,1,none⟩ (.int .i64 ((rd_T103 l0 x10_1).f1)))).cell? _ = some _ from hx1004_1));clear hn1004_0;clear hn1004_1;replace p1004:=eq_true p1004;replace q1004:=eq_true q1004));try go_wp2));go_ret;exact ⟨by first|rfl|(simp [errW_none,errW_some] <;> rfl)|(simp only [← hji9];first|rfl|(simp [errW_none,errW_some] <;> rfl))|(simp [*,errW_none,errW_some] <;> rfl)|(simp [*,Go.Proofs.Ytfdbbpnmnogddaa.Gt.nil_bne];done),bg_⟩
       ·rw [if_neg c12] at H;have c12b0 : decide (((rd_T103 l0 x10_1).f0) ≤ ((rd_T103 l0 (ji9)).f0)) = false:=decide_eq_false c12;clear c12;have H':=am_ H;clear H;have p1001 : 0 ≤ (x10_1 : Int):=od_;have q1001 : x10_1 < (l0.length : Int):=od_;obtain ⟨ad1001,e1001,hx1001_0,hx1001_1⟩:=at_T103 HR0.out x10_1 p1001 q1001
        cases e1001
        replace hx1001_0:=kp_ HB hx1001_0;replace hx1001_1:=kp_ HB hx1001_1;replace p1001:=eq_true p1001;replace q1001:=eq_true q1001;go_wp2_with (first|((with_reducible refine gate_dst (N:=4) rfl ?_);refine bx_ 4 #[.int .i64 0,.int .i64 0] 103 ?_;intro gb1002 hg w15 hbox hb;have BK1002:=am_ (hbox);have GW1002:=am_ (gs_ hg : w.heap.size ≤ gb1002);replace HB:=am_ (below_step bl_ hb);have GE1002:=GW1002;clear hb hbox hg;have hz16:=bk2_ BK1002)|(go_at_call 106;(with_reducible refine (impl_isTime.calls ((rd_T103 l0 x10_1).f0) true _ A6.out).mono ?_);rintro e w' ⟨rfl,⟨nd,rfl⟩⟩;(try exact dd_);have p1004 : 0 ≤ ((ji9) : Int):=od_;have q1004 : (ji9) < (l0.length : Int):=od_;obtain ⟨ad1004,e1004,hx1004_0,hx1004_1⟩:=at_T103 HR0.out (ji9) p1004 q1004;obtain rfl : ad1001 = ad1004:=(by injection e1004);have hn1004_0 : ad1001.block ≠ gb1002:=hb_ hx1004_0 GW1002;have hn1004_1 : ad1001.block ≠ gb1002:=hb_ hx1004_0 GW1002;replace hx1004_0:=kp_ HB hx1004_0;replace hx1004_1:=kp_ HB hx1004_1;replace hx1004_0:=cf_ gb1002 0 hn1004_0 (.int .i64 ((rd_T103 l0 x10_1).f0)) hx1004_0;replace hx1004_1:=cf_ gb1002 0 hn1004_0 (.int .i64 ((rd_T103 l0 x10_1).f0)) hx1004_1;replace hx1004_0:=cf_ gb1002 1 hn1004_1 (.int .i64 ((rd_T103 l0 x10_1).f1)) hx1004_0;replace hx1004_1:=cf_ gb1002 1 hn1004_1 (.int .i64 ((rd_T103 l0 x10_1).f1)) hx1004_1;(try have hy1004_0:=fun (n_ : Nat) => (show ((((w15.drewN n_).setCell ⟨gb1002,0,none⟩ (.int .i64 ((rd_T103 l0 x10_1).f0))).setCell ⟨gb1002,1,none⟩ (.int .i64 ((rd_T103 l0 x10_1).f1)))).cell? _ = some _ from hx1004_0));(try have hy1004_1:=fun (n_ : Nat) => (show ((((w15.drewN n_).setCell ⟨gb1002,0,none⟩ (.int .i64 ((rd_T103 l0 x10_1).f0))).setCell ⟨gb1002,1,none⟩ (.int .i64 ((rd_T103 l0 x10_1).f1)))).cell? _ = some _ from hx1004_1));clear hn1004_0;clear hn1004_1;replace p1004:=eq_true p1004;replace q1004:=eq_true q1004));(repeat (go_quiet (first|((with_reducible refine gate_dst (N:=4) rfl ?_);refine bx_ 4 #[.int .i64 0,.int .i64 0] 103 ?_;intro gb1002 hg w15 hbox hb;have BK1002:=am_ (hbox);have GW1002:=am_ (gs_ hg : w.heap.size ≤ gb1002);replace HB:=am_ (below_step bl_ hb);have GE1002:=GW1002;clear hb hbox hg;have hz16:=bk2_ BK1002)|(go_at_call 106;(with_reducible refine (impl_isTime.calls ((rd_T103 l0 x10_1).f0) true _ A6.out).mono ?_);rintro e w' ⟨rfl,⟨nd,rfl⟩⟩;(try exact dd_);have p1004 : 0 ≤ ((ji9) : Int):=od_;have q1004 : (ji9) < (l0.length : Int):=od_;obtain ⟨ad1004,e1004,hx1004_0,hx1004_1⟩:=at_T103 HR0.out (ji9) p1004 q1004;obtain rfl : ad1001 = ad1004:=(by injection e1004);have hn1004_0 : ad1001.block ≠ gb1002:=hb_ hx1004_0 GW1002;have hn1004_1 : ad1001.block ≠ gb1002:=hb_ hx1004_0 GW1002;replace hx1004_0:=kp_ HB hx1004_0;replace hx1004_1:=kp_ HB hx1004_1;replace hx1004_0:=cf_ gb1002 0 hn1004_0 (.int .i64 ((rd_T103 l0 x10_1).f0)) hx1004_0;replace hx1004_1:=cf_ gb1002 0 hn1004_0 (.int .i64 ((rd_T103 l0 x10_1).f0)) hx1004_1;replace hx1004_0:=cf_ gb1002 1 hn1004_1 (.int .i64 ((rd_T103 l0 x10_1).f1)) hx1004_0;replace hx1004_1:=cf_ gb1002 1 hn1004_1 (.int .i64 ((rd_T103 l0 x10_1).f1)) hx1004_1;(try have hy1004_0:=fun (n_ : Nat) => (show ((((w15.drewN n_).setCell ⟨gb1002,0,none⟩ (.int .i64 ((rd_T103 l0 x10_1).f0))).setCell ⟨gb1002,1,none⟩ (.int .i64 ((rd_T103 l0 x10_1).f1)))).cell? _ = some _ from hx1004_0));(try have hy1004_1:=fun (n_ : Nat) => (show ((((w15.drewN n_).setCell ⟨gb1002,0,none⟩ (.int .i64 ((rd_T103 l0 x10_1).f0))).setCell ⟨gb1002,1,none⟩ (.int .i64 ((rd_T103 l0 x10_1).f1)))).cell? _ = some _ from hx1004_1));clear hn1004_0;clear hn1004_1;replace p1004:=eq_true p1004;replace q1004:=eq_true q1004));try go_wp2));go_roundg k1
        case measure => have:=HK1.out;omega
        case rel => exact ⟨(wrap64 (x10_1 + 1)),rs_,H',⟨by have:=HK1.out;omega⟩,⟨bg_⟩⟩
      ·rw [if_neg c8] at H;have c8b0:=df_ c8;clear c8;have H':=am_ H;clear H;have p1001 : 0 ≤ (x10_1 : Int):=od_;have q1001 : x10_1 < (l0.length : Int):=od_;obtain ⟨ad1001,e1001,hx1001_0,hx1001_1⟩:=at_T103 HR0.out x10_1 p1001 q1001
       cases e1001
       replace hx1001_0:=kp_ HB hx1001_0;replace hx1001_1:=kp_ HB hx1001_1;replace p1001:=eq_true p1001;replace q1001:=eq_true q1001;go_wp2_with (first|((with_reducible refine gate_dst (N:=4) rfl ?_);refine bx_ 4 #[.int .i64 0,.int .i64 0] 103 ?_;intro gb1002 hg w17 hbox hb;have BK1002:=am_ (hbox);have GW1002:=am_ (gs_ hg : w.heap.size ≤ gb1002);replace HB:=am_ (below_step bl_ hb);have GE1002:=GW1002;clear hb hbox hg;have hz18:=bk2_ BK1002)|(go_at_call 106;(with_reducible refine (impl_isTime.calls ((rd_T103 l0 x10_1).f0) true _ A6.out).mono ?_);rintro e w' ⟨rfl,⟨nd,rfl⟩⟩;(try exact dd_)));(repeat (go_quiet (first|((with_reducible refine gate_dst (N:=4) rfl ?_);refine bx_ 4 #[.int .i64 0,.int .i64 0] 103 ?_;intro gb1002 hg w17 hbox hb;have BK1002:=am_ (hbox);have GW1002:=am_ (gs_ hg : w.heap.size ≤ gb1002);replace HB:=am_ (below_step bl_ hb);have GE1002:=GW1002;clear hb hbox hg;have hz18:=bk2_ BK1002)|(go_at_call 106;(with_reducible refine (impl_isTime.calls ((rd_T103 l0 x10_1).f0) true _ A6.out).mono ?_);rintro e w' ⟨rfl,⟨nd,rfl⟩⟩;(try exact dd_)));try go_wp2));go_roundg k1
       case measure => have:=HK1.out;omega
       case rel => exact ⟨(wrap64 (x10_1 + 1)),rs_,H',⟨by have:=HK1.out;omega⟩,⟨bg_⟩⟩
     ·replace c7:=Bool.eq_false_iff.mpr c7;subst c7;replace H:=if_ H;obtain rfl:=si_ H;have p1001 : 0 ≤ (x10_1 : Int):=od_;have q1001 : x10_1 < (l0.length : Int):=od_;obtain ⟨ad1001,e1001,hx1001_0,hx1001_1⟩:=at_T103 HR0.out x10_1 p1001 q1001
      cases e1001
      replace hx1001_0:=kp_ HB hx1001_0;replace hx1001_1:=kp_ HB hx1001_1;replace p1001:=eq_true p1001;replace q1001:=eq_true q1001;go_wp2_with (first|((with_reducible refine gate_dst (N:=4) rfl ?_);refine bx_ 4 #[.int .i64 0,.int .i64 0] 103 ?_;intro gb1002 hg w19 hbox hb;have BK1002:=am_ (hbox);have GW1002:=am_ (gs_ hg : w.heap.size ≤ gb1002);replace HB:=am_ (below_step bl_ hb);have GE1002:=GW1002;clear hb hbox hg;have hz20:=bk2_ BK1002)|(go_at_call 106;(with_reducible refine (impl_isTime.calls ((rd_T103 l0 x10_1).f0) false _ A6.out).mono ?_);rintro e w' ⟨rfl,⟨nd,rfl⟩⟩;(try exact dd_)));(repeat (go_quiet (first|((with_reducible refine gate_dst (N:=4) rfl ?_);refine bx_ 4 #[.int .i64 0,.int .i64 0] 103 ?_;intro gb1002 hg w19 hbox hb;have BK1002:=am_ (hbox);have GW1002:=am_ (gs_ hg : w.heap.size ≤ gb1002);replace HB:=am_ (below_step bl_ hb);have GE1002:=GW1002;clear hb hbox hg;have hz20:=bk2_ BK1002)|(go_at_call 106;(with_reducible refine (impl_isTime.calls ((rd_T103 l0 x10_1).f0) false _ A6.out).mono ?_);rintro e w' ⟨rfl,⟨nd,rfl⟩⟩;(try exact dd_)));try go_wp2));go_ret;exact ⟨rf_,bg_⟩
    ·rw [if_neg c3] at H;have c3b0:=decide_eq_false c3;clear c3;obtain rfl:=si_ H;go_wp2;(repeat (go_quiet (fail);try go_wp2));go_ret;exact ⟨rf_,bl_⟩
def cmp_Or_int.l0 : Nat → Int → List Int → Int → Int → Option (Int)
 | 0,_,_,_,_ => none
 | k + 1,x3,x6,x7,x8 => if x8 < x7 then (if 0 ≤ x8 then (if x8 < (x6.length : Int) then (if (rd x6 x8) = x3 then (cmp_Or_int.l0 k x3 x6 x7 (wrap64 (x8 + 1))) else (some (rd x6 x8))) else (none)) else (none)) else (some x3)
def cmp_Or_int.f (k : Nat) (l0 : List Int) : Option (Int):=cmp_Or_int.l0 k 0 l0 (l0.length : Int) 0
theorem cmp_Or_int.mono_l : ∀ k,(∀ y0 y1 y2 y3,LeO (cmp_Or_int.l0 k y0 y1 y2 y3) (cmp_Or_int.l0 (k + 1) y0 y1 y2 y3))
 | 0 => fun _ _ _ _ r h => by simp [cmp_Or_int.l0] at h
 | k + 1 => by
  have ih0:=cmp_Or_int.mono_l k
  ·intro y0 y1 y2 y3
   unfold cmp_Or_int.l0
   repeat' with_reducible first|apply ih0|apply LeO.refl|apply LeO.none|apply LeO.ite|refine LeO.bind ?_ (fun _ => ?_)
theorem cmp_Or_int.mono : ∀ a0 k,LeO (cmp_Or_int.f k a0) (cmp_Or_int.f (k + 1) a0):=by
 intro a0 k
 have ih0:=cmp_Or_int.mono_l k
 unfold cmp_Or_int.f
 repeat' with_reducible first|apply ih0|apply LeO.refl|apply LeO.none|apply LeO.ite|refine LeO.bind ?_ (fun _ => ?_)
theorem cmp_Or_int.calls (k : Nat) (A0 : Option Addr) (c0 : Nat) (l0 : List Int) (r : Int) (w : World) (hr0 : Kd.C (Kd.int .i64) w A0 l0.length l0) (hc0 : l0.length ≤ c0) (h : cmp_Or_int.f k l0 = some r) :
  Calls Try.prog 107 #[.slice A0 l0.length c0] w fun e w' => e = .returned (.int .i64 r) ∧ Drawn0 w w':=by
 have HR0:=am_ hr0;have HC0:=am_ hc0;clear hr0 hc0;have H:=h;clear h;unfold cmp_Or_int.f at H;have H':=am_ H;clear H;go_enter Try.func107,Try.ntmps107;go_wp2
 go_loopg [8] k (fun kq v8 w' => ∃ (x8_1 : Int),v8 = .int .i64 x8_1 ∧ Aside0 (cmp_Or_int.l0 kq 0 l0 (l0.length : Int) x8_1 = some r) ∧ Aside0 (kq ≤ k) ∧ Drawn0 w w')
 case atStart => exact ⟨(0),rs_,H',⟨Nat.le_refl _⟩,by repeat (first|exact Drawn0.refl _|apply Drawn0.step)⟩
 case round =>
  clear H';obtain ⟨x8_1,rfl,HA,HK1,⟨m1,rfl⟩⟩:=hrel
  cases gk with
  | zero => exact absurd HA.out (by simp [cmp_Or_int.l0])
  | succ k1 =>
   have H:=HA.out;clear HA;simp only [cmp_Or_int.l0] at H
   by_cases c2 : x8_1 < (l0.length : Int)
   ·rw [if_pos c2] at H;have c2b0:=decide_eq_true c2;clear c2;replace H:=is_ H;obtain ⟨c3,H⟩:=H;have c3b0:=decide_eq_true c3;clear c3;replace H:=is_ H;obtain ⟨c4,H⟩:=H;have c4b0:=decide_eq_true c4;clear c4
    by_cases c5 : (rd l0 x8_1) = 0
    ·rw [if_pos c5] at H;have c5b0:=eb_ c5;have c5b1:=en_ c5;clear c5;have H':=am_ H;clear H;have p1001 : 0 ≤ (x8_1 : Int):=od_;have q1001 : x8_1 < (l0.length : Int):=od_;obtain ⟨ad1001,e1001,hx1001_0⟩:=Kd.at_int HR0.out x8_1 p1001 q1001
     cases e1001
     replace p1001:=eq_true p1001;replace q1001:=eq_true q1001;go_wp2;go_roundg k1
     case measure => have:=HK1.out;omega
     case rel => exact ⟨(wrap64 (x8_1 + 1)),rs_,H',⟨by have:=HK1.out;omega⟩,by repeat (first|exact Drawn0.refl _|apply Drawn0.step)⟩
    ·rw [if_neg c5] at H;have c5b0:=nb_ c5;have c5b1:=nn_ c5;obtain rfl:=si_ H;have p1001 : 0 ≤ (x8_1 : Int):=od_;have q1001 : x8_1 < (l0.length : Int):=od_;obtain ⟨ad1001,e1001,hx1001_0⟩:=Kd.at_int HR0.out x8_1 p1001 q1001
     cases e1001
     replace p1001:=eq_true p1001;replace q1001:=eq_true q1001;go_wp2;go_ret;exact ⟨by first|rfl|(simp;done)|(simp [*];done),by repeat (first|exact Drawn0.refl _|apply Drawn0.step)⟩
   ·rw [if_neg c2] at H;have c2b0:=decide_eq_false c2;clear c2;obtain rfl:=si_ H;go_wp2;go_ret;exact ⟨by first|rfl|(simp;done)|(simp [*];done),by repeat (first|exact Drawn0.refl _|apply Drawn0.step)⟩
def cmp_isNaN_string.f (a0 : ByteArray) : Option (Bool):=some (a0.toList != a0.toList)
theorem cmp_isNaN_string.calls (a0 : ByteArray) (r : Bool) (w : World) (h : cmp_isNaN_string.f a0 = some r) :
  Calls Try.prog 124 #[.string a0] w fun e w' => e = .returned (.bool r) ∧ Drawn0 w w':=by
 have H:=h;clear h;unfold cmp_isNaN_string.f at H;obtain rfl:=si_ H;go_enter Try.func124,Try.ntmps124;go_wp2;go_ret;exact ⟨by first|rfl|(simp;done)|(simp [*];done),by repeat (first|exact Drawn0.refl _|apply Drawn0.step)⟩
def cmp_Compare_string.f (a0 : ByteArray) (a1 : ByteArray) : Option (Int):=(cmp_isNaN_string.f a0).bind fun t1001 => ((cmp_isNaN_string.f a1).bind fun t1002 => (if t1001 = true then (if t1002 = true then (some 0) else (some (-1))) else (if t1002 = true then (some 1) else (if (Op.bytesLess a0.toList a1.toList) = true then (some (-1)) else (if (Op.bytesLess a1.toList a0.toList) = true then (some 1) else (some 0))))))
theorem cmp_Compare_string.calls (a0 : ByteArray) (a1 : ByteArray) (r : Int) (w : World) (h : cmp_Compare_string.f a0 a1 = some r) :
  Calls Try.prog 108 #[.string a0,.string a1] w fun e w' => e = .returned (.int .i64 r) ∧ Drawn0 w w':=by
 have H:=h;clear h;unfold cmp_Compare_string.f at H;replace H:=bs_ H;obtain ⟨t1001,A3,H⟩:=H;replace H:=bs_ H;obtain ⟨t1002,A4,H⟩:=H
 by_cases c5 : t1001 = true
 ·subst c5;replace H:=it_ H
  by_cases c6 : t1002 = true
  ·subst c6;replace H:=it_ H;obtain rfl:=si_ H;go_enter Try.func108,Try.ntmps108;go_wp2_with (first|((with_reducible refine gate_callee (f:=124) rfl ?_);refine gl_ 8 Try.func124 #[.string a0] ?_;(with_reducible refine (cmp_isNaN_string.calls a0 true _ A3.out).mono ?_);rintro e w' ⟨rfl,⟨nd,rfl⟩⟩;refine ⟨_,rfl,?_⟩)|((with_reducible refine gate_callee (f:=124) rfl ?_);refine gl_ 10 Try.func124 #[.string a1] ?_;(with_reducible refine (cmp_isNaN_string.calls a1 true _ A4.out).mono ?_);rintro e w' ⟨rfl,⟨nd,rfl⟩⟩;refine ⟨_,rfl,?_⟩));go_ret;exact ⟨by first|rfl|(simp;done)|(simp [*];done),by repeat (first|exact Drawn0.refl _|apply Drawn0.step)⟩
  ·replace c6:=Bool.eq_false_iff.mpr c6;subst c6;replace H:=if_ H;obtain rfl:=si_ H;go_enter Try.func108,Try.ntmps108;go_wp2_with (first|((with_reducible refine gate_callee (f:=124) rfl ?_);refine gl_ 8 Try.func124 #[.string a0] ?_;(with_reducible refine (cmp_isNaN_string.calls a0 true _ A3.out).mono ?_);rintro e w' ⟨rfl,⟨nd,rfl⟩⟩;refine ⟨_,rfl,?_⟩)|((with_reducible refine gate_callee (f:=124) rfl ?_);refine gl_ 10 Try.func124 #[.string a1] ?_;(with_reducible refine (cmp_isNaN_string.calls a1 false _ A4.out).mono ?_);rintro e w' ⟨rfl,⟨nd,rfl⟩⟩;refine ⟨_,rfl,?_⟩));go_ret;exact ⟨by first|rfl|(simp;done)|(simp [*];done),by repeat (first|exact Drawn0.refl _|apply Drawn0.step)⟩
 ·replace c5:=Bool.eq_false_iff.mpr c5;subst c5;replace H:=if_ H
  by_cases c7 : t1002 = true
  ·subst c7;replace H:=it_ H;obtain rfl:=si_ H;go_enter Try.func108,Try.ntmps108;go_wp2_with (first|((with_reducible refine gate_callee (f:=124) rfl ?_);refine gl_ 8 Try.func124 #[.string a0] ?_;(with_reducible refine (cmp_isNaN_string.calls a0 false _ A3.out).mono ?_);rintro e w' ⟨rfl,⟨nd,rfl⟩⟩;refine ⟨_,rfl,?_⟩)|((with_reducible refine gate_callee (f:=124) rfl ?_);refine gl_ 10 Try.func124 #[.string a1] ?_;(with_reducible refine (cmp_isNaN_string.calls a1 true _ A4.out).mono ?_);rintro e w' ⟨rfl,⟨nd,rfl⟩⟩;refine ⟨_,rfl,?_⟩));go_ret;exact ⟨by first|rfl|(simp;done)|(simp [*];done),by repeat (first|exact Drawn0.refl _|apply Drawn0.step)⟩
  ·replace c7:=Bool.eq_false_iff.mpr c7;subst c7;replace H:=if_ H
   by_cases c8 : (Op.bytesLess a0.toList a1.toList) = true
   ·rw [if_pos c8] at H;have c8b0 : (Op.bytesLess a0.toList a1.toList) = true:=c8;clear c8;obtain rfl:=si_ H;go_enter Try.func108,Try.ntmps108;go_wp2_with (first|((with_reducible refine gate_callee (f:=124) rfl ?_);refine gl_ 8 Try.func124 #[.string a0] ?_;(with_reducible refine (cmp_isNaN_string.calls a0 false _ A3.out).mono ?_);rintro e w' ⟨rfl,⟨nd,rfl⟩⟩;refine ⟨_,rfl,?_⟩)|((with_reducible refine gate_callee (f:=124) rfl ?_);refine gl_ 10 Try.func124 #[.string a1] ?_;(with_reducible refine (cmp_isNaN_string.calls a1 false _ A4.out).mono ?_);rintro e w' ⟨rfl,⟨nd,rfl⟩⟩;refine ⟨_,rfl,?_⟩));go_ret;exact ⟨by first|rfl|(simp;done)|(simp [*];done),by repeat (first|exact Drawn0.refl _|apply Drawn0.step)⟩
   ·rw [if_neg c8] at H;have c8b0 : (Op.bytesLess a0.toList a1.toList) = false:=by simpa using c8
    clear c8
    by_cases c9 : (Op.bytesLess a1.toList a0.toList) = true
    ·rw [if_pos c9] at H;have c9b0 : (Op.bytesLess a1.toList a0.toList) = true:=c9;clear c9;obtain rfl:=si_ H;go_enter Try.func108,Try.ntmps108;go_wp2_with (first|((with_reducible refine gate_callee (f:=124) rfl ?_);refine gl_ 8 Try.func124 #[.string a0] ?_;(with_reducible refine (cmp_isNaN_string.calls a0 false _ A3.out).mono ?_);rintro e w' ⟨rfl,⟨nd,rfl⟩⟩;refine ⟨_,rfl,?_⟩)|((with_reducible refine gate_callee (f:=124) rfl ?_);refine gl_ 10 Try.func124 #[.string a1] ?_;(with_reducible refine (cmp_isNaN_string.calls a1 false _ A4.out).mono ?_);rintro e w' ⟨rfl,⟨nd,rfl⟩⟩;refine ⟨_,rfl,?_⟩));go_ret;exact ⟨by first|rfl|(simp;done)|(simp [*];done),by repeat (first|exact Drawn0.refl _|apply Drawn0.step)⟩
    ·rw [if_neg c9] at H;have c9b0 : (Op.bytesLess a1.toList a0.toList) = false:=by simpa using c9
     clear c9;obtain rfl:=si_ H;go_enter Try.func108,Try.ntmps108;go_wp2_with (first|((with_reducible refine gate_callee (f:=124) rfl ?_);refine gl_ 8 Try.func124 #[.string a0] ?_;(with_reducible refine (cmp_isNaN_string.calls a0 false _ A3.out).mono ?_);rintro e w' ⟨rfl,⟨nd,rfl⟩⟩;refine ⟨_,rfl,?_⟩)|((with_reducible refine gate_callee (f:=124) rfl ?_);refine gl_ 10 Try.func124 #[.string a1] ?_;(with_reducible refine (cmp_isNaN_string.calls a1 false _ A4.out).mono ?_);rintro e w' ⟨rfl,⟨nd,rfl⟩⟩;refine ⟨_,rfl,?_⟩));go_ret;exact ⟨by first|rfl|(simp;done)|(simp [*];done),by repeat (first|exact Drawn0.refl _|apply Drawn0.step)⟩
def cmp_isNaN_int.f (a0 : Int) : Option (Bool):=some (a0 != a0)
theorem cmp_isNaN_int.calls (a0 : Int) (r : Bool) (w : World) (h : cmp_isNaN_int.f a0 = some r) :
  Calls Try.prog 125 #[.int .i64 a0] w fun e w' => e = .returned (.bool r) ∧ Drawn0 w w':=by
 have H:=h;clear h;unfold cmp_isNaN_int.f at H;obtain rfl:=si_ H;go_enter Try.func125,Try.ntmps125;go_wp2;go_ret;exact ⟨by first|rfl|(simp;done)|(simp [*];done),by repeat (first|exact Drawn0.refl _|apply Drawn0.step)⟩
def cmp_Compare_int.f (a0 : Int) (a1 : Int) : Option (Int):=(cmp_isNaN_int.f a0).bind fun t1001 => ((cmp_isNaN_int.f a1).bind fun t1002 => (if t1001 = true then (if t1002 = true then (some 0) else (some (-1))) else (if t1002 = true then (some 1) else (if a0 < a1 then (some (-1)) else (if a0 > a1 then (some 1) else (some 0))))))
theorem cmp_Compare_int.calls (a0 : Int) (a1 : Int) (r : Int) (w : World) (h : cmp_Compare_int.f a0 a1 = some r) :
  Calls Try.prog 109 #[.int .i64 a0,.int .i64 a1] w fun e w' => e = .returned (.int .i64 r) ∧ Drawn0 w w':=by
 have H:=h;clear h;unfold cmp_Compare_int.f at H;replace H:=bs_ H;obtain ⟨t1001,A3,H⟩:=H;replace H:=bs_ H;obtain ⟨t1002,A4,H⟩:=H
 by_cases c5 : t1001 = true
 ·subst c5;replace H:=it_ H
  by_cases c6 : t1002 = true
  ·subst c6;replace H:=it_ H;obtain rfl:=si_ H;go_enter Try.func109,Try.ntmps109;go_wp2_with (first|((with_reducible refine gate_callee (f:=125) rfl ?_);refine gl_ 8 Try.func125 #[.int .i64 a0] ?_;(with_reducible refine (cmp_isNaN_int.calls a0 true _ A3.out).mono ?_);rintro e w' ⟨rfl,⟨nd,rfl⟩⟩;refine ⟨_,rfl,?_⟩)|((with_reducible refine gate_callee (f:=125) rfl ?_);refine gl_ 10 Try.func125 #[.int .i64 a1] ?_;(with_reducible refine (cmp_isNaN_int.calls a1 true _ A4.out).mono ?_);rintro e w' ⟨rfl,⟨nd,rfl⟩⟩;refine ⟨_,rfl,?_⟩));go_ret;exact ⟨by first|rfl|(simp;done)|(simp [*];done),by repeat (first|exact Drawn0.refl _|apply Drawn0.step)⟩
  ·replace c6:=Bool.eq_false_iff.mpr c6;subst c6;replace H:=if_ H;obtain rfl:=si_ H;go_enter Try.func109,Try.ntmps109;go_wp2_with (first|((with_reducible refine gate_callee (f:=125) rfl ?_);refine gl_ 8 Try.func125 #[.int .i64 a0] ?_;(with_reducible refine (cmp_isNaN_int.calls a0 true _ A3.out).mono ?_);rintro e w' ⟨rfl,⟨nd,rfl⟩⟩;refine ⟨_,rfl,?_⟩)|((with_reducible refine gate_callee (f:=125) rfl ?_);refine gl_ 10 Try.func125 #[.int .i64 a1] ?_;(with_reducible refine (cmp_isNaN_int.calls a1 false _ A4.out).mono ?_);rintro e w' ⟨rfl,⟨nd,rfl⟩⟩;refine ⟨_,rfl,?_⟩));go_ret;exact ⟨by first|rfl|(simp;done)|(simp [*];done),by repeat (first|exact Drawn0.refl _|apply Drawn0.step)⟩
 ·replace c5:=Bool.eq_false_iff.mpr c5;subst c5;replace H:=if_ H
  by_cases c7 : t1002 = true
  ·subst c7;replace H:=it_ H;obtain rfl:=si_ H;go_enter Try.func109,Try.ntmps109;go_wp2_with (first|((with_reducible refine gate_callee (f:=125) rfl ?_);refine gl_ 8 Try.func125 #[.int .i64 a0] ?_;(with_reducible refine (cmp_isNaN_int.calls a0 false _ A3.out).mono ?_);rintro e w' ⟨rfl,⟨nd,rfl⟩⟩;refine ⟨_,rfl,?_⟩)|((with_reducible refine gate_callee (f:=125) rfl ?_);refine gl_ 10 Try.func125 #[.int .i64 a1] ?_;(with_reducible refine (cmp_isNaN_int.calls a1 true _ A4.out).mono ?_);rintro e w' ⟨rfl,⟨nd,rfl⟩⟩;refine ⟨_,rfl,?_⟩));go_ret;exact ⟨by first|rfl|(simp;done)|(simp [*];done),by repeat (first|exact Drawn0.refl _|apply Drawn0.step)⟩
  ·replace c7:=Bool.eq_false_iff.mpr c7;subst c7;replace H:=if_ H
   by_cases c8 : a0 < a1
   ·rw [if_pos c8] at H;have c8b0:=decide_eq_true c8;clear c8;obtain rfl:=si_ H;go_enter Try.func109,Try.ntmps109;go_wp2_with (first|((with_reducible refine gate_callee (f:=125) rfl ?_);refine gl_ 8 Try.func125 #[.int .i64 a0] ?_;(with_reducible refine (cmp_isNaN_int.calls a0 false _ A3.out).mono ?_);rintro e w' ⟨rfl,⟨nd,rfl⟩⟩;refine ⟨_,rfl,?_⟩)|((with_reducible refine gate_callee (f:=125) rfl ?_);refine gl_ 10 Try.func125 #[.int .i64 a1] ?_;(with_reducible refine (cmp_isNaN_int.calls a1 false _ A4.out).mono ?_);rintro e w' ⟨rfl,⟨nd,rfl⟩⟩;refine ⟨_,rfl,?_⟩));go_ret;exact ⟨by first|rfl|(simp;done)|(simp [*];done),by repeat (first|exact Drawn0.refl _|apply Drawn0.step)⟩
   ·rw [if_neg c8] at H;have c8b0:=decide_eq_false c8;clear c8
    by_cases c9 : a0 > a1
    ·rw [if_pos c9] at H;have c9b0:=dg_ c9;clear c9;obtain rfl:=si_ H;go_enter Try.func109,Try.ntmps109;go_wp2_with (first|((with_reducible refine gate_callee (f:=125) rfl ?_);refine gl_ 8 Try.func125 #[.int .i64 a0] ?_;(with_reducible refine (cmp_isNaN_int.calls a0 false _ A3.out).mono ?_);rintro e w' ⟨rfl,⟨nd,rfl⟩⟩;refine ⟨_,rfl,?_⟩)|((with_reducible refine gate_callee (f:=125) rfl ?_);refine gl_ 10 Try.func125 #[.int .i64 a1] ?_;(with_reducible refine (cmp_isNaN_int.calls a1 false _ A4.out).mono ?_);rintro e w' ⟨rfl,⟨nd,rfl⟩⟩;refine ⟨_,rfl,?_⟩));go_ret;exact ⟨by first|rfl|(simp;done)|(simp [*];done),by repeat (first|exact Drawn0.refl _|apply Drawn0.step)⟩
    ·rw [if_neg c9] at H;have c9b0:=df_ c9;clear c9;obtain rfl:=si_ H;go_enter Try.func109,Try.ntmps109;go_wp2_with (first|((with_reducible refine gate_callee (f:=125) rfl ?_);refine gl_ 8 Try.func125 #[.int .i64 a0] ?_;(with_reducible refine (cmp_isNaN_int.calls a0 false _ A3.out).mono ?_);rintro e w' ⟨rfl,⟨nd,rfl⟩⟩;refine ⟨_,rfl,?_⟩)|((with_reducible refine gate_callee (f:=125) rfl ?_);refine gl_ 10 Try.func125 #[.int .i64 a1] ?_;(with_reducible refine (cmp_isNaN_int.calls a1 false _ A4.out).mono ?_);rintro e w' ⟨rfl,⟨nd,rfl⟩⟩;refine ⟨_,rfl,?_⟩));go_ret;exact ⟨by first|rfl|(simp;done)|(simp [*];done),by repeat (first|exact Drawn0.refl _|apply Drawn0.step)⟩
def impl_compare.l0 : Nat → List (S56) → List (S56) → Int → Int → Option (Int)
 | 0,_,_,_,_ => none
 | k + 1,x0,x1,x11,x12 => if x12 < x11 then (if 0 ≤ x12 then (if x12 < (x0.length : Int) then (if x12 < (x1.length : Int) then ((cmp_Compare_string.f ((rd_T56 x0 x12).f0) ((rd_T56 x1 x12).f0)).bind fun t1004 => ((cmp_Compare_string.f ((rd_T56 x0 x12).f1) ((rd_T56 x1 x12).f1)).bind fun t1007 => ((cmp_Or_int.f k (([t1004,t1007] : List Int))).bind fun t1011 => (if t1011 = 0 then (impl_compare.l0 k x0 x1 x11 (wrap64 (x12 + 1))) else (some t1011))))) else (none)) else (none)) else (none)) else ((cmp_Compare_int.f (x0.length : Int) (x1.length : Int)).bind fun t1001 => (some t1001))
def impl_compare.f (k : Nat) (l0 : List (S56)) (l1 : List (S56)) : Option (Int):=impl_compare.l0 k l0 l1 (mn (l0.length : Int) (l1.length : Int)) 0
theorem impl_compare.mono_l : ∀ k,(∀ y0 y1 y2 y3,LeO (impl_compare.l0 k y0 y1 y2 y3) (impl_compare.l0 (k + 1) y0 y1 y2 y3))
 | 0 => fun _ _ _ _ r h => by simp [impl_compare.l0] at h
 | k + 1 => by
  have ih0:=impl_compare.mono_l k
  ·intro y0 y1 y2 y3
   unfold impl_compare.l0
   repeat' with_reducible first|apply ih0|apply cmp_Or_int.mono|apply LeO.refl|apply LeO.none|apply LeO.ite|refine LeO.bind ?_ (fun _ => ?_)
theorem impl_compare.mono : ∀ a0 a1 k,LeO (impl_compare.f k a0 a1) (impl_compare.f (k + 1) a0 a1):=by
 intro a0 a1 k
 have ih0:=impl_compare.mono_l k
 unfold impl_compare.f
 repeat' with_reducible first|apply ih0|apply cmp_Or_int.mono|apply LeO.refl|apply LeO.none|apply LeO.ite|refine LeO.bind ?_ (fun _ => ?_)
def impl_compare.T4 : Bool × List (List Nat × List Nat):=(true,[([],[]),([],[]),([0,1],[0,1]),([2],[2]),([3],[3]),([],[]),([],[]),([5,6],[5,6]),([7],[7]),([8],[8]),([4,9],[4,9]),([],[]),([],[]),([11,12],[11,12]),([13],[13]),([14],[14]),([],[]),([],[]),([16,17],[16,17]),([18],[18]),([19],[19]),([15,20,10],[15,20]),([10,21],[10,21]),([22,21],[22]),([23,23,0,1,2,3,4,5,6,7,8,9,10,11,12,13,14,15,16,17,18,19,20,21,22,23],[23])])
def impl_compare.B4 : List Nat:=[0,0,3,7,15,0,0,96,224,480,1023,0,0,6144,14336,30720,0,0,196608,458752,983040,2097151,4194303,8388607,16777215]
theorem impl_compare.tab4 : rtab .any (opsOf Try.f77 4) = impl_compare.T4:=by kernel_rfl
theorem impl_compare.bits4 : waitsOk impl_compare.T4.2 impl_compare.B4 = true:=by kernel_rfl
theorem impl_compare.calls (k : Nat) (A0 : Option Addr) (c0 : Nat) (l0 : List (S56)) (A1 : Option Addr) (c1 : Nat) (l1 : List (S56)) (r : Int) (w : World) (hr0 : Kd.C k56 w A0 l0.length l0) (hc0 : l0.length ≤ c0) (hr1 : Kd.C k56 w A1 l1.length l1) (hc1 : l1.length ≤ c1) (h : impl_compare.f k l0 l1 = some r) :
  Calls Try.prog 77 #[.slice A0 l0.length c0,.slice A1 l1.length c1] w fun e w' => e = .returned (.int .i64 r) ∧ Below w.heap.size w w':=by
 have HR0:=am_ hr0;have HC0:=am_ hc0;clear hr0 hc0;have HR1:=am_ hr1;have HC1:=am_ hc1;clear hr1 hc1;have HB:=am_ (Below.refl w.heap.size w);have H:=h;clear h;unfold impl_compare.f at H;obtain ⟨ji3,hji3⟩ : ∃ j_ : Int,(mn (l0.length : Int) (l1.length : Int)) = j_:=⟨_,rfl⟩;replace H : (impl_compare.l0 k l0 l1 ji3 0) = some r:=by first|(rw [hji3] at H;exact H)|(simp only [hji3] at H ⊢;exact H)
 (try (have hji3l : 0 ≤ ji3:=by (rw [← hji3];unfold mn;(repeat' split) <;> omega)));(try (have hji3m : 0 ≤ ji3:=by omega));have hji3_ : (if (l1.length : Int) < (l0.length : Int) then (l1.length : Int) else (l0.length : Int)) = ji3:=hji3;have hji3n_ : (if l1.length < l0.length then (l1.length : Int) else (l0.length : Int)) = ji3:=by rw [← hji3_];split <;> split <;> omega
 have H':=am_ H;clear H;go_enter Try.func77,Try.ntmps77;go_wp2
 go_loopg [12] k (fun kq v12 w' => ∃ (x12_1 : Int),v12 = .int .i64 x12_1 ∧ Aside0 (impl_compare.l0 kq l0 l1 ji3 x12_1 = some r) ∧ Aside0 (kq ≤ k) ∧ Aside0 (Below w.heap.size w w'))
 case atStart => exact ⟨(0),rs_,H',⟨Nat.le_refl _⟩,⟨bl_⟩⟩
 case round =>
  clear H';obtain ⟨x12_1,rfl,HA,HK1,HB⟩:=hrel
  cases gk with
  | zero => exact absurd HA.out (by simp [impl_compare.l0])
  | succ k1 =>
   have H:=HA.out;clear HA;simp only [impl_compare.l0] at H
   by_cases c4 : x12_1 < ji3
   ·rw [if_pos c4] at H;have c4b0:=decide_eq_true c4;clear c4;replace H:=is_ H;obtain ⟨c5,H⟩:=H;have c5b0:=decide_eq_true c5;clear c5;replace H:=is_ H;obtain ⟨c6,H⟩:=H;have c6b0:=decide_eq_true c6;clear c6;replace H:=is_ H;obtain ⟨c7,H⟩:=H;have c7b0:=decide_eq_true c7;clear c7;replace H:=bs_ H;obtain ⟨t1004,A8,H⟩:=H;replace H:=bs_ H;obtain ⟨t1007,A9,H⟩:=H;obtain ⟨y1008,hy1008⟩ : ∃ y_ : List Int,y_ = (([t1004,t1007] : List Int)):=⟨_,rfl⟩;replace H : ((cmp_Or_int.f k1 y1008).bind fun t1011 => (if t1011 = 0 then (impl_compare.l0 k1 l0 l1 ji3 (wrap64 (x12_1 + 1))) else (some t1011))) = some r:=by first|(rw [hy1008];with_reducible exact H)|(have H2_:=(Option.bind_some _ _).symm.trans H;rw [hy1008];with_reducible exact H2_)|(have H2_:=(Option.bind_some _ _).symm.trans H;with_reducible exact H2_)|with_reducible exact H|(rw [hy1008];exact H)|exact H
    have Ny1008:=am_ hy1008;clear hy1008;replace H:=bs_ H;obtain ⟨t1011,A10,H⟩:=H
    by_cases c11 : t1011 = 0
    ·rw [if_pos c11] at H;have c11b0:=eb_ c11;have c11b1:=en_ c11;clear c11;have H':=am_ H;clear H;(try go_wp2);have n0_:=am_ (below_drew1 HB.out);clear HB;have HB:=n0_;clear n0_;have p1002 : 0 ≤ (x12_1 : Int):=od_;have q1002 : x12_1 < (l0.length : Int):=od_;obtain ⟨ad1002,e1002,hx1002_0,hx1002_1⟩:=at_T56 HR0.out x12_1 p1002 q1002;have hw1002_1:=hx1002_1;have hw1002_0:=hx1002_0
     cases e1002
     replace hx1002_0:=kp_ HB hx1002_0;replace hx1002_1:=kp_ HB hx1002_1;replace p1002:=eq_true p1002;replace q1002:=eq_true q1002;have p1003 : 0 ≤ (x12_1 : Int):=od_;have q1003 : x12_1 < (l1.length : Int):=od_;obtain ⟨ad1003,e1003,hx1003_0,hx1003_1⟩:=at_T56 HR1.out x12_1 p1003 q1003;have hw1003_1:=hx1003_1;have hw1003_0:=hx1003_0
     cases e1003
     replace hx1003_0:=kp_ HB hx1003_0;replace hx1003_1:=kp_ HB hx1003_1;replace p1003:=eq_true p1003;replace q1003:=eq_true q1003;have p1005 : 0 ≤ (x12_1 : Int):=od_;have q1005 : x12_1 < (l0.length : Int):=od_;obtain ⟨ad1005,e1005,hx1005_0,hx1005_1⟩:=at_T56 HR0.out x12_1 p1005 q1005;have hw1005_1:=hx1005_1;have hw1005_0:=hx1005_0;obtain rfl : ad1002 = ad1005:=(by injection e1005);replace hx1005_0:=kp_ HB hx1005_0;replace hx1005_1:=kp_ HB hx1005_1;replace p1005:=eq_true p1005;replace q1005:=eq_true q1005;have p1006 : 0 ≤ (x12_1 : Int):=od_;have q1006 : x12_1 < (l1.length : Int):=od_;obtain ⟨ad1006,e1006,hx1006_0,hx1006_1⟩:=at_T56 HR1.out x12_1 p1006 q1006;have hw1006_1:=hx1006_1;have hw1006_0:=hx1006_0;obtain rfl : ad1003 = ad1006:=(by injection e1006);replace hx1006_0:=kp_ HB hx1006_0;replace hx1006_1:=kp_ HB hx1006_1;replace p1006:=eq_true p1006;replace q1006:=eq_true q1006;refine start_ (n:=25) (S:=fun w' => w'.cell? (ad1002.add ((x12_1).toNat * 2)) = some (.string ((rd_T56 l0 x12_1).f0)) ∧ w'.cell? ⟨(ad1002.add ((x12_1).toNat * 2)).block,(ad1002.add ((x12_1).toNat * 2)).off + 1,none⟩ = some (.string ((rd_T56 l0 x12_1).f1)) ∧ w'.cell? (ad1003.add ((x12_1).toNat * 2)) = some (.string ((rd_T56 l1 x12_1).f0)) ∧ w'.cell? ⟨(ad1003.add ((x12_1).toNat * 2)).block,(ad1003.add ((x12_1).toNat * 2)).off + 1,none⟩ = some (.string ((rd_T56 l1 x12_1).f1)) ∧ w'.cell? (ad1002.add ((x12_1).toNat * 2)) = some (.string ((rd_T56 l0 x12_1).f0)) ∧ w'.cell? ⟨(ad1002.add ((x12_1).toNat * 2)).block,(ad1002.add ((x12_1).toNat * 2)).off + 1,none⟩ = some (.string ((rd_T56 l0 x12_1).f1)) ∧ w'.cell? (ad1003.add ((x12_1).toNat * 2)) = some (.string ((rd_T56 l1 x12_1).f0)) ∧ w'.cell? ⟨(ad1003.add ((x12_1).toNat * 2)).block,(ad1003.add ((x12_1).toNat * 2)).off + 1,none⟩ = some (.string ((rd_T56 l1 x12_1).f1))) (ds:=[]) (bz 25 0) (by kernel_rfl) rfl rfl ⟨(kp_ HB hw1002_0 :),(kp_ HB hw1002_1 :),(kp_ HB hw1003_0 :),(kp_ HB hw1003_1 :),(kp_ HB hw1005_0 :),(kp_ HB hw1005_1 :),(kp_ HB hw1006_0 :),(kp_ HB hw1006_1 :)⟩ (fun hHeld => ?_);refine with_tabW impl_compare.tab4 impl_compare.bits4 (fun HT_ HW_ => ?_);generalize wr.drew = w12 at HB hx1002_0 hx1002_1 hx1003_0 hx1003_1 hx1005_0 hx1005_1 hx1006_0 hx1006_1 hHeld ⊢;refine pz_ 0 15 1 ?_;refine pz_ 1 16 3 ?_;refine pz_ 2 17 7 ?_;refine pz_ 3 18 15 ?_;refine pz_ 5 20 47 ?_;refine pz_ 6 21 111 ?_;refine pz_ 7 22 239 ?_;refine pz_ 8 23 495 ?_;refine pz_ 11 26 2543 ?_;refine pz_ 12 27 6639 ?_;refine pz_ 13 28 14831 ?_;refine pz_ 14 29 31215 ?_;refine pz_ 16 31 96751 ?_;refine pz_ 17 32 227823 ?_;refine pz_ 18 33 489967 ?_;refine pz_ 19 34 1014255 ?_;refine tz_ 4 19 1014271 ?_;refine tz_ 9 24 1014783 ?_;refine tz_ 15 30 1047551 ?_;refine tz_ 20 35 2096127 ?_;refine one_ (i:=10) (N:=some 25) (bz 25 2097151) rfl rfl (one_of HT_.out (by kernel_rfl)) (by decide) (fun K hK => ?_);refine goes_ Try.func108 (by kernel_rfl) rfl #[.string ((rd_T56 l0 x12_1).f0),.string ((rd_T56 l1 x12_1).f0)] (by rfl) rfl rfl ag_ ?_;(with_reducible refine (cmp_Compare_string.calls ((rd_T56 l0 x12_1).f0) ((rd_T56 l1 x12_1).f0) t1004 _ A8.out).mono ?_);rintro e w' ⟨rfl,⟨nd,rfl⟩⟩;refine ⟨_,rfl,?_⟩;refine hK.out _ _ ⟨(kp_ HB hw1002_0 :),(kp_ HB hw1002_1 :),(kp_ HB hw1003_0 :),(kp_ HB hw1003_1 :),(kp_ HB hw1005_0 :),(kp_ HB hw1005_1 :),(kp_ HB hw1006_0 :),(kp_ HB hw1006_1 :)⟩ (fun hHeld => ?_);clear hK K;refine norm_ (a':=?_) ?_ ?_;rotate_left
     ·show Act.put _ (some 25) _ = _;simp only [Act.put,List.setIfInBounds_toArray,List.set_cons_zero,List.set_cons_succ,i64_w,i32_w];rfl
     refine one_ (i:=21) (N:=some 36) (bz 25 4194303) rfl rfl (one_of HT_.out (by kernel_rfl)) (by decide) (fun K hK => ?_);refine goes_ Try.func108 (by kernel_rfl) rfl #[.string ((rd_T56 l0 x12_1).f1),.string ((rd_T56 l1 x12_1).f1)] (by rfl) rfl rfl ag_ ?_;(with_reducible refine (cmp_Compare_string.calls ((rd_T56 l0 x12_1).f1) ((rd_T56 l1 x12_1).f1) t1007 _ A9.out).mono ?_);rintro e w' ⟨rfl,⟨nd,rfl⟩⟩;refine ⟨_,rfl,?_⟩;refine hK.out _ _ ⟨(kp_ HB hw1002_0 :),(kp_ HB hw1002_1 :),(kp_ HB hw1003_0 :),(kp_ HB hw1003_1 :),(kp_ HB hw1005_0 :),(kp_ HB hw1005_1 :),(kp_ HB hw1006_0 :),(kp_ HB hw1006_1 :)⟩ (fun hHeld => ?_);clear hK K;refine norm_ (a':=?_) ?_ ?_;rotate_left
     ·show Act.put _ (some 36) _ = _;simp only [Act.put,List.setIfInBounds_toArray,List.set_cons_zero,List.set_cons_succ,i64_w,i32_w];rfl
     refine one_ (i:=22) (N:=some 37) (bz 25 8388607) rfl rfl (one_of HT_.out (by kernel_rfl)) (by decide) (fun K hK => ?_);refine Kd.R_lit_step (Kd.int .i64) _ 3 ?hg (N:=37) ?hd (xs:=([t1004,t1007] : List Int)) (inner:=[.int .i64 t1004,.int .i64 t1007]) (ok:=fun _ => True) (okp:=fun _ => True) ?hr ?hp (fun _ hk => hk) trivial (Below.refl _ _) (Nat.le_refl _) (by simp) ?_;(case hd => rfl);(case hg => rfl);(case hr => first|(go_simp;done)|(go_simp;rfl));(case hp => exact (Reps.one (show Kd.M (Kd.int .i64) _ _ _ t1004 [.int .i64 t1004] from rfl) (Reps.one (show Kd.M (Kd.int .i64) _ _ _ t1007 [.int .i64 t1007] from rfl) (Reps.none _ _))));intro v1009 w13 ho14 hb hg_ hnew_;clear hg_ hnew_;(first|rw [← Ny1008.out] at ho14|(simp only [Int.reduceToNat] at ho14;rw [← Ny1008.out] at ho14));have n0_:=am_ (Kd.R_lower ho14 (below_size bl_));have n1_:=am_ (below_step bl_ hb);clear HB;have HO1010:=n0_;have HB:=n1_;clear n0_ n1_;clear hb ho14;obtain ⟨Ao15,co15,eo15⟩:=Kd.R_slice HO1010.out;(first|subst eo15|(injection eo15 with f1_ f2_ f3_;have f4_:=f1_.symm;have f5_:=f3_.symm;clear f1_ f2_ f3_;subst f4_;subst f5_));refine hK.out _ _ ⟨(kp_ HB hw1002_0 :),(kp_ HB hw1002_1 :),(kp_ HB hw1003_0 :),(kp_ HB hw1003_1 :),(kp_ HB hw1005_0 :),(kp_ HB hw1005_1 :),(kp_ HB hw1006_0 :),(kp_ HB hw1006_1 :)⟩ (fun hHeld => ?_);clear hK K;refine norm_ (a':=?_) ?_ ?_;rotate_left
     ·show Act.put _ (some 37) _ = _;simp only [Act.put,List.setIfInBounds_toArray,List.set_cons_zero,List.set_cons_succ,i64_w,i32_w];rfl
     refine one_ (i:=23) (N:=some 38) (bz 25 16777215) rfl rfl (one_of HT_.out (by kernel_rfl)) (by decide) (fun K hK => ?_);refine goes_ Try.func107 (by kernel_rfl) rfl #[.slice Ao15 y1008.length co15] (by rfl) rfl rfl ag_ ?_;(with_reducible refine (cmp_Or_int.calls k1 _ _ y1008 t1011 _ ?side1 ?side2 A10.out).mono ?_);(case side1 => exact cc_ (Kd.R_reads' HO1010.out).2.2);(case side2 => exact (Kd.R_reads' HO1010.out).2.1);rintro e w' ⟨rfl,⟨nd,rfl⟩⟩;refine ⟨_,rfl,?_⟩;refine hK.out _ _ ⟨(kp_ HB hw1002_0 :),(kp_ HB hw1002_1 :),(kp_ HB hw1003_0 :),(kp_ HB hw1003_1 :),(kp_ HB hw1005_0 :),(kp_ HB hw1005_1 :),(kp_ HB hw1006_0 :),(kp_ HB hw1006_1 :)⟩ (fun hHeld => ?_);clear hK K;refine norm_ (a':=?_) ?_ ?_;rotate_left
     ·show Act.put _ (some 38) _ = _;simp only [Act.put,List.setIfInBounds_toArray,List.set_cons_zero,List.set_cons_succ,i64_w,i32_w];rfl
     refine pz_ 24 6 33554431 ?_;refine done_ (done_of HT_.out (by kernel_rfl)) ?_;(try go_wp2);go_roundg k1
     case measure => have:=HK1.out;omega
     case rel => exact ⟨(wrap64 (x12_1 + 1)),rs_,H',⟨by have:=HK1.out;omega⟩,⟨bl_⟩⟩
    ·rw [if_neg c11] at H;have c11b0:=nb_ c11;have c11b1:=nn_ c11;obtain rfl:=si_ H;(try go_wp2);have n0_:=am_ (below_drew1 HB.out);clear HB;have HB:=n0_;clear n0_;have p1002 : 0 ≤ (x12_1 : Int):=od_;have q1002 : x12_1 < (l0.length : Int):=od_;obtain ⟨ad1002,e1002,hx1002_0,hx1002_1⟩:=at_T56 HR0.out x12_1 p1002 q1002;have hw1002_1:=hx1002_1;have hw1002_0:=hx1002_0
     cases e1002
     replace hx1002_0:=kp_ HB hx1002_0;replace hx1002_1:=kp_ HB hx1002_1;replace p1002:=eq_true p1002;replace q1002:=eq_true q1002;have p1003 : 0 ≤ (x12_1 : Int):=od_;have q1003 : x12_1 < (l1.length : Int):=od_;obtain ⟨ad1003,e1003,hx1003_0,hx1003_1⟩:=at_T56 HR1.out x12_1 p1003 q1003;have hw1003_1:=hx1003_1;have hw1003_0:=hx1003_0
     cases e1003
     replace hx1003_0:=kp_ HB hx1003_0;replace hx1003_1:=kp_ HB hx1003_1;replace p1003:=eq_true p1003;replace q1003:=eq_true q1003;have p1005 : 0 ≤ (x12_1 : Int):=od_;have q1005 : x12_1 < (l0.length : Int):=od_;obtain ⟨ad1005,e1005,hx1005_0,hx1005_1⟩:=at_T56 HR0.out x12_1 p1005 q1005;have hw1005_1:=hx1005_1;have hw1005_0:=hx1005_0;obtain rfl : ad1002 = ad1005:=(by injection e1005);replace hx1005_0:=kp_ HB hx1005_0;replace hx1005_1:=kp_ HB hx1005_1;replace p1005:=eq_true p1005;replace q1005:=eq_true q1005;have p1006 : 0 ≤ (x12_1 : Int):=od_;have q1006 : x12_1 < (l1.length : Int):=od_;obtain ⟨ad1006,e1006,hx1006_0,hx1006_1⟩:=at_T56 HR1.out x12_1 p1006 q1006;have hw1006_1:=hx1006_1;have hw1006_0:=hx1006_0;obtain rfl : ad1003 = ad1006:=(by injection e1006);replace hx1006_0:=kp_ HB hx1006_0;replace hx1006_1:=kp_ HB hx1006_1;replace p1006:=eq_true p1006;replace q1006:=eq_true q1006;refine start_ (n:=25) (S:=fun w' => w'.cell? (ad1002.add ((x12_1).toNat * 2)) = some (.string ((rd_T56 l0 x12_1).f0)) ∧ w'.cell? ⟨(ad1002.add ((x12_1).toNat * 2)).block,(ad1002.add ((x12_1).toNat * 2)).off + 1,none⟩ = some (.string ((rd_T56 l0 x12_1).f1)) ∧ w'.cell? (ad1003.add ((x12_1).toNat * 2)) = some (.string ((rd_T56 l1 x12_1).f0)) ∧ w'.cell? ⟨(ad1003.add ((x12_1).toNat * 2)).block,(ad1003.add ((x12_1).toNat * 2)).off + 1,none⟩ = some (.string ((rd_T56 l1 x12_1).f1)) ∧ w'.cell? (ad1002.add ((x12_1).toNat * 2)) = some (.string ((rd_T56 l0 x12_1).f0)) ∧ w'.cell? ⟨(ad1002.add ((x12_1).toNat * 2)).block,(ad1002.add ((x12_1).toNat * 2)).off + 1,none⟩ = some (.string ((rd_T56 l0 x12_1).f1)) ∧ w'.cell? (ad1003.add ((x12_1).toNat * 2)) = some (.string ((rd_T56 l1 x12_1).f0)) ∧ w'.cell? ⟨(ad1003.add ((x12_1).toNat * 2)).block,(ad1003.add ((x12_1).toNat * 2)).off + 1,none⟩ = some (.string ((rd_T56 l1 x12_1).f1))) (ds:=[]) (bz 25 0) (by kernel_rfl) rfl rfl ⟨(kp_ HB hw1002_0 :),(kp_ HB hw1002_1 :),(kp_ HB hw1003_0 :),(kp_ HB hw1003_1 :),(kp_ HB hw1005_0 :),(kp_ HB hw1005_1 :),(kp_ HB hw1006_0 :),(kp_ HB hw1006_1 :)⟩ (fun hHeld => ?_);refine with_tabW impl_compare.tab4 impl_compare.bits4 (fun HT_ HW_ => ?_);generalize wr.drew = w16 at HB hx1002_0 hx1002_1 hx1003_0 hx1003_1 hx1005_0 hx1005_1 hx1006_0 hx1006_1 hHeld ⊢;refine pz_ 0 15 1 ?_;refine pz_ 1 16 3 ?_;refine pz_ 2 17 7 ?_;refine pz_ 3 18 15 ?_;refine pz_ 5 20 47 ?_;refine pz_ 6 21 111 ?_;refine pz_ 7 22 239 ?_;refine pz_ 8 23 495 ?_;refine pz_ 11 26 2543 ?_;refine pz_ 12 27 6639 ?_;refine pz_ 13 28 14831 ?_;refine pz_ 14 29 31215 ?_;refine pz_ 16 31 96751 ?_;refine pz_ 17 32 227823 ?_;refine pz_ 18 33 489967 ?_;refine pz_ 19 34 1014255 ?_;refine tz_ 4 19 1014271 ?_;refine tz_ 9 24 1014783 ?_;refine tz_ 15 30 1047551 ?_;refine tz_ 20 35 2096127 ?_;refine one_ (i:=10) (N:=some 25) (bz 25 2097151) rfl rfl (one_of HT_.out (by kernel_rfl)) (by decide) (fun K hK => ?_);refine goes_ Try.func108 (by kernel_rfl) rfl #[.string ((rd_T56 l0 x12_1).f0),.string ((rd_T56 l1 x12_1).f0)] (by rfl) rfl rfl ag_ ?_;(with_reducible refine (cmp_Compare_string.calls ((rd_T56 l0 x12_1).f0) ((rd_T56 l1 x12_1).f0) t1004 _ A8.out).mono ?_);rintro e w' ⟨rfl,⟨nd,rfl⟩⟩;refine ⟨_,rfl,?_⟩;refine hK.out _ _ ⟨(kp_ HB hw1002_0 :),(kp_ HB hw1002_1 :),(kp_ HB hw1003_0 :),(kp_ HB hw1003_1 :),(kp_ HB hw1005_0 :),(kp_ HB hw1005_1 :),(kp_ HB hw1006_0 :),(kp_ HB hw1006_1 :)⟩ (fun hHeld => ?_);clear hK K;refine norm_ (a':=?_) ?_ ?_;rotate_left
     ·show Act.put _ (some 25) _ = _;simp only [Act.put,List.setIfInBounds_toArray,List.set_cons_zero,List.set_cons_succ,i64_w,i32_w];rfl
     refine one_ (i:=21) (N:=some 36) (bz 25 4194303) rfl rfl (one_of HT_.out (by kernel_rfl)) (by decide) (fun K hK => ?_);refine goes_ Try.func108 (by kernel_rfl) rfl #[.string ((rd_T56 l0 x12_1).f1),.string ((rd_T56 l1 x12_1).f1)] (by rfl) rfl rfl ag_ ?_;(with_reducible refine (cmp_Compare_string.calls ((rd_T56 l0 x12_1).f1) ((rd_T56 l1 x12_1).f1) t1007 _ A9.out).mono ?_);rintro e w' ⟨rfl,⟨nd,rfl⟩⟩;refine ⟨_,rfl,?_⟩;refine hK.out _ _ ⟨(kp_ HB hw1002_0 :),(kp_ HB hw1002_1 :),(kp_ HB hw1003_0 :),(kp_ HB hw1003_1 :),(kp_ HB hw1005_0 :),(kp_ HB hw1005_1 :),(kp_ HB hw1006_0 :),(kp_ HB hw1006_1 :)⟩ (fun hHeld => ?_);clear hK K;refine norm_ (a':=?_) ?_ ?_;rotate_left
     ·show Act.put _ (some 36) _ = _;simp only [Act.put,List.setIfInBounds_toArray,List.set_cons_zero,List.set_cons_succ,i64_w,i32_w];rfl
     refine one_ (i:=22) (N:=some 37) (bz 25 8388607) rfl rfl (one_of HT_.out (by kernel_rfl)) (by decide) (fun K hK => ?_);refine Kd.R_lit_step (Kd.int .i64) _ 3 ?hg (N:=37) ?hd (xs:=([t1004,t1007] : List Int)) (inner:=[.int .i64 t1004,.int .i64 t1007]) (ok:=fun _ => True) (okp:=fun _ => True) ?hr ?hp (fun _ hk => hk) trivial (Below.refl _ _) (Nat.le_refl _) (by simp) ?_;(case hd => rfl);(case hg => rfl);(case hr => first|(go_simp;done)|(go_simp;rfl));(case hp => exact (Reps.one (show Kd.M (Kd.int .i64) _ _ _ t1004 [.int .i64 t1004] from rfl) (Reps.one (show Kd.M (Kd.int .i64) _ _ _ t1007 [.int .i64 t1007] from rfl) (Reps.none _ _))));intro v1009 w17 ho18 hb hg_ hnew_;clear hg_ hnew_;(first|rw [← Ny1008.out] at ho18|(simp only [Int.reduceToNat] at ho18;rw [← Ny1008.out] at ho18));have n0_:=am_ (Kd.R_lower ho18 (below_size bl_));have n1_:=am_ (below_step bl_ hb);clear HB;have HO1010:=n0_;have HB:=n1_;clear n0_ n1_;clear hb ho18;obtain ⟨Ao19,co19,eo19⟩:=Kd.R_slice HO1010.out;(first|subst eo19|(injection eo19 with f1_ f2_ f3_;have f4_:=f1_.symm;have f5_:=f3_.symm;clear f1_ f2_ f3_;subst f4_;subst f5_));refine hK.out _ _ ⟨(kp_ HB hw1002_0 :),(kp_ HB hw1002_1 :),(kp_ HB hw1003_0 :),(kp_ HB hw1003_1 :),(kp_ HB hw1005_0 :),(kp_ HB hw1005_1 :),(kp_ HB hw1006_0 :),(kp_ HB hw1006_1 :)⟩ (fun hHeld => ?_);clear hK K;refine norm_ (a':=?_) ?_ ?_;rotate_left
     ·show Act.put _ (some 37) _ = _;simp only [Act.put,List.setIfInBounds_toArray,List.set_cons_zero,List.set_cons_succ,i64_w,i32_w];rfl
     refine one_ (i:=23) (N:=some 38) (bz 25 16777215) rfl rfl (one_of HT_.out (by kernel_rfl)) (by decide) (fun K hK => ?_);refine goes_ Try.func107 (by kernel_rfl) rfl #[.slice Ao19 y1008.length co19] (by rfl) rfl rfl ag_ ?_;(with_reducible refine (cmp_Or_int.calls k1 _ _ y1008 t1011 _ ?side1 ?side2 A10.out).mono ?_);(case side1 => exact cc_ (Kd.R_reads' HO1010.out).2.2);(case side2 => exact (Kd.R_reads' HO1010.out).2.1);rintro e w' ⟨rfl,⟨nd,rfl⟩⟩;refine ⟨_,rfl,?_⟩;refine hK.out _ _ ⟨(kp_ HB hw1002_0 :),(kp_ HB hw1002_1 :),(kp_ HB hw1003_0 :),(kp_ HB hw1003_1 :),(kp_ HB hw1005_0 :),(kp_ HB hw1005_1 :),(kp_ HB hw1006_0 :),(kp_ HB hw1006_1 :)⟩ (fun hHeld => ?_);clear hK K;refine norm_ (a':=?_) ?_ ?_;rotate_left
     ·show Act.put _ (some 38) _ = _;simp only [Act.put,List.setIfInBounds_toArray,List.set_cons_zero,List.set_cons_succ,i64_w,i32_w];rfl
     refine pz_ 24 6 33554431 ?_;refine done_ (done_of HT_.out (by kernel_rfl)) ?_;(try go_wp2);go_ret;exact ⟨by first|rfl|(simp [errW_none,errW_some] <;> rfl)|(simp only [← hji3];first|rfl|(simp [errW_none,errW_some] <;> rfl))|(simp [*,errW_none,errW_some] <;> rfl)|(simp [*,Go.Proofs.Ytfdbbpnmnogddaa.Gt.nil_bne];done),bl_⟩
   ·rw [if_neg c4] at H;have c4b0:=decide_eq_false c4;clear c4;replace H:=bs_ H;obtain ⟨t1001,A20,H⟩:=H;obtain rfl:=si_ H;go_wp2_with (first|((with_reducible refine gate_callee (f:=109) rfl ?_);refine gl_ 47 Try.func109 #[.int .i64 (l0.length : Int),.int .i64 (l1.length : Int)] ?_;(with_reducible refine (cmp_Compare_int.calls (l0.length : Int) (l1.length : Int) t1001 _ A20.out).mono ?_);rintro e w' ⟨rfl,⟨nd,rfl⟩⟩;refine ⟨_,rfl,?_⟩));go_ret;exact ⟨by first|rfl|(simp [errW_none,errW_some] <;> rfl)|(simp only [← hji3];first|rfl|(simp [errW_none,errW_some] <;> rfl))|(simp [*,errW_none,errW_some] <;> rfl)|(simp [*,Go.Proofs.Ytfdbbpnmnogddaa.Gt.nil_bne];done),bl_⟩
end Go.Proofs.Ytfdbbpnmnogddaa.Pr
