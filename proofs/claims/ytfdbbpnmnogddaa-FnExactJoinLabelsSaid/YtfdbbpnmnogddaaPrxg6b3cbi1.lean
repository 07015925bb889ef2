/- Functions of the given program as plain Lean functions, and that the machine's calls come to them; written by a program of this session; no condition but those that each theorem states. -/
import Derived.Test.YtfdbbpnmnogddaaShelf
import Derived.Test.YtfdbbpnmnogddaaWRepsOne
import Derived.Test.YtfdbbpnmnogddaaWFour
import Derived.Test.YtfdbbpnmnogddaaPrx0
import Derived.Test.YtfdbbpnmnogddaaPrxg6b3cbs1
set_option maxHeartbeats 32000000
set_option maxRecDepth 100000
namespace Go.Proofs.Ytfdbbpnmnogddaa.Pr
open Go.RowKit Go.Proofs.YtfdbbpnmnogddaaW.PrintWords Go.Proofs.YtfdbbpnmnogddaaW.PrintLast Go.Proofs.YtfdbbpnmnogddaaW.PrintMore
attribute [local go_sem] max2_int min2_int max_two min_two max_three min_three max_four min_four
set_option linter.unusedVariables false
set_option linter.unusedSimpArgs false
def impl_digitByte.f (a0 : Int) : Option (Bool):=if a0 ≥ 48 then (some (decide (a0 ≤ 57))) else (some false)
theorem impl_digitByte.calls (a0 : Int) (r : Bool) (w : World) (h : impl_digitByte.f a0 = some r) :
  Calls Try.prog 99 #[.int .u8 a0] w fun e w' => e = .returned (.bool r) ∧ Drawn0 w w':=by
 have H:=h;clear h;unfold impl_digitByte.f at H
 by_cases c2 : a0 ≥ 48
 ·rw [if_pos c2] at H;have c2b0 : decide (48 ≤ a0) = true:=decide_eq_true c2;clear c2;obtain rfl:=si_ H;go_enter Try.func99,Try.ntmps99;go_wp2;go_ret;exact ⟨by first|rfl|(simp;done)|(simp [*];done),by repeat (first|exact Drawn0.refl _|apply Drawn0.step)⟩
 ·rw [if_neg c2] at H;have c2b0 : decide (48 ≤ a0) = false:=decide_eq_false c2;clear c2;obtain rfl:=si_ H;go_enter Try.func99,Try.ntmps99;go_wp2;go_ret;exact ⟨by first|rfl|(simp;done)|(simp [*];done),by repeat (first|exact Drawn0.refl _|apply Drawn0.step)⟩
def impl_letterByte.f (a0 : Int) : Option (Bool):=if a0 ≥ 97 then (if a0 ≤ 122 then (some true) else (if a0 ≥ 65 then (some (decide (a0 ≤ 90))) else (some false))) else (if a0 ≥ 65 then (some (decide (a0 ≤ 90))) else (some false))
theorem impl_letterByte.calls (a0 : Int) (r : Bool) (w : World) (h : impl_letterByte.f a0 = some r) :
  Calls Try.prog 120 #[.int .u8 a0] w fun e w' => e = .returned (.bool r) ∧ Drawn0 w w':=by
 have H:=h;clear h;unfold impl_letterByte.f at H
 by_cases c2 : a0 ≥ 97
 ·rw [if_pos c2] at H;have c2b0 : decide (97 ≤ a0) = true:=decide_eq_true c2;clear c2
  by_cases c3 : a0 ≤ 122
  ·rw [if_pos c3] at H;have c3b0:=decide_eq_true c3;clear c3;obtain rfl:=si_ H;go_enter Try.func120,Try.ntmps120;go_wp2;go_ret;exact ⟨by first|rfl|(simp;done)|(simp [*];done),by repeat (first|exact Drawn0.refl _|apply Drawn0.step)⟩
  ·rw [if_neg c3] at H;have c3b0:=decide_eq_false c3;clear c3
   by_cases c4 : a0 ≥ 65
   ·rw [if_pos c4] at H;have c4b0 : decide (65 ≤ a0) = true:=decide_eq_true c4;clear c4;obtain rfl:=si_ H;go_enter Try.func120,Try.ntmps120;go_wp2;go_ret;exact ⟨by first|rfl|(simp;done)|(simp [*];done),by repeat (first|exact Drawn0.refl _|apply Drawn0.step)⟩
   ·rw [if_neg c4] at H;have c4b0 : decide (65 ≤ a0) = false:=decide_eq_false c4;clear c4;obtain rfl:=si_ H;go_enter Try.func120,Try.ntmps120;go_wp2;go_ret;exact ⟨by first|rfl|(simp;done)|(simp [*];done),by repeat (first|exact Drawn0.refl _|apply Drawn0.step)⟩
 ·rw [if_neg c2] at H;have c2b0 : decide (97 ≤ a0) = false:=decide_eq_false c2;clear c2
  by_cases c5 : a0 ≥ 65
  ·rw [if_pos c5] at H;have c5b0 : decide (65 ≤ a0) = true:=decide_eq_true c5;clear c5;obtain rfl:=si_ H;go_enter Try.func120,Try.ntmps120;go_wp2;go_ret;exact ⟨by first|rfl|(simp;done)|(simp [*];done),by repeat (first|exact Drawn0.refl _|apply Drawn0.step)⟩
  ·rw [if_neg c5] at H;have c5b0 : decide (65 ≤ a0) = false:=decide_eq_false c5;clear c5;obtain rfl:=si_ H;go_enter Try.func120,Try.ntmps120;go_wp2;go_ret;exact ⟨by first|rfl|(simp;done)|(simp [*];done),by repeat (first|exact Drawn0.refl _|apply Drawn0.step)⟩
def impl_wordByte.f (a0 : Int) : Option (Bool):=(impl_letterByte.f a0).bind fun t1001 => (if t1001 = true then (some true) else ((impl_digitByte.f a0).bind fun t1002 => (if t1002 = true then (some true) else (some (a0 == 95)))))
theorem impl_wordByte.calls (a0 : Int) (r : Bool) (w : World) (h : impl_wordByte.f a0 = some r) :
  Calls Try.prog 100 #[.int .u8 a0] w fun e w' => e = .returned (.bool r) ∧ Drawn0 w w':=by
 have H:=h;clear h;unfold impl_wordByte.f at H;replace H:=bs_ H;obtain ⟨t1001,A2,H⟩:=H
 by_cases c3 : t1001 = true
 ·subst c3;replace H:=it_ H;obtain rfl:=si_ H;go_enter Try.func100,Try.ntmps100;go_wp2_with (first|((with_reducible refine gate_callee (f:=120) rfl ?_);refine gl_ 4 Try.func120 #[.int .u8 a0] ?_;(with_reducible refine (impl_letterByte.calls a0 true _ A2.out).mono ?_);rintro e w' ⟨rfl,⟨nd,rfl⟩⟩;refine ⟨_,rfl,?_⟩));go_ret;exact ⟨by first|rfl|(simp;done)|(simp [*];done),by repeat (first|exact Drawn0.refl _|apply Drawn0.step)⟩
 ·replace c3:=Bool.eq_false_iff.mpr c3;subst c3;replace H:=if_ H;replace H:=bs_ H;obtain ⟨t1002,A4,H⟩:=H
  by_cases c5 : t1002 = true
  ·subst c5;replace H:=it_ H;obtain rfl:=si_ H;go_enter Try.func100,Try.ntmps100;go_wp2_with (first|((with_reducible refine gate_callee (f:=120) rfl ?_);refine gl_ 4 Try.func120 #[.int .u8 a0] ?_;(with_reducible refine (impl_letterByte.calls a0 false _ A2.out).mono ?_);rintro e w' ⟨rfl,⟨nd,rfl⟩⟩;refine ⟨_,rfl,?_⟩)|(go_at_call 99;(with_reducible refine (impl_digitByte.calls a0 true _ A4.out).mono ?_);rintro e w' ⟨rfl,⟨nd,rfl⟩⟩));go_ret;exact ⟨by first|rfl|(simp;done)|(simp [*];done),by repeat (first|exact Drawn0.refl _|apply Drawn0.step)⟩
  ·replace c5:=Bool.eq_false_iff.mpr c5;subst c5;replace H:=if_ H;obtain rfl:=si_ H;go_enter Try.func100,Try.ntmps100;go_wp2_with (first|((with_reducible refine gate_callee (f:=120) rfl ?_);refine gl_ 4 Try.func120 #[.int .u8 a0] ?_;(with_reducible refine (impl_letterByte.calls a0 false _ A2.out).mono ?_);rintro e w' ⟨rfl,⟨nd,rfl⟩⟩;refine ⟨_,rfl,?_⟩)|(go_at_call 99;(with_reducible refine (impl_digitByte.calls a0 false _ A4.out).mono ?_);rintro e w' ⟨rfl,⟨nd,rfl⟩⟩));go_ret;exact ⟨by first|rfl|(simp;done)|(simp [*];done),by repeat (first|exact Drawn0.refl _|apply Drawn0.step)⟩
mutual
def impl_isName.j0 : Nat → ByteArray → Bool → Option (Bool)
 | 0,_,_ => none
 | k + 1,x0,x15 => if x15 = true then (some false) else (impl_isName.l0 k x0 (x0.size : Int) 0)
def impl_isName.l0 : Nat → ByteArray → Int → Int → Option (Bool)
 | 0,_,_,_ => none
 | k + 1,x0,x17,x18 => if x18 < x17 then (if 0 ≤ x18 then (if x18 < (x0.size : Int) then ((impl_wordByte.f (bt x0 x18)).bind fun t1002 => (if t1002 = true then (impl_isName.l0 k x0 x17 (wrap64 (x18 + 1))) else (some false))) else (none)) else (none)) else (some true)
end
def impl_isName.f (k : Nat) (a0 : ByteArray) : Option (Bool):=if a0.toList = ([] : List UInt8) then (impl_isName.j0 k a0 true) else (if (a0.size : Int) > 40 then (impl_isName.j0 k a0 true) else (if 0 < (a0.size : Int) then ((impl_digitByte.f (bt a0 0)).bind fun t1001 => (impl_isName.j0 k a0 t1001)) else (none)))
theorem impl_isName.mono_l : ∀ k,(∀ y0 y1,LeO (impl_isName.j0 k y0 y1) (impl_isName.j0 (k + 1) y0 y1)) ∧ (∀ y0 y1 y2,LeO (impl_isName.l0 k y0 y1 y2) (impl_isName.l0 (k + 1) y0 y1 y2))
 | 0 => ⟨fun _ _ r h => by simp [impl_isName.j0] at h,fun _ _ _ r h => by simp [impl_isName.l0] at h⟩
 | k + 1 => by
  obtain ⟨ih0,ih1⟩:=impl_isName.mono_l k
  refine ⟨?_,?_⟩
  ·intro y0 y1
   unfold impl_isName.j0
   repeat' with_reducible first|apply ih0|apply ih1|apply LeO.refl|apply LeO.none|apply LeO.ite|refine LeO.bind ?_ (fun _ => ?_)
  ·intro y0 y1 y2
   unfold impl_isName.l0
   repeat' with_reducible first|apply ih0|apply ih1|apply LeO.refl|apply LeO.none|apply LeO.ite|refine LeO.bind ?_ (fun _ => ?_)
theorem impl_isName.mono : ∀ a0 k,LeO (impl_isName.f k a0) (impl_isName.f (k + 1) a0):=by
 intro a0 k
 obtain ⟨ih0,ih1⟩:=impl_isName.mono_l k
 unfold impl_isName.f
 repeat' with_reducible first|apply ih0|apply ih1|apply LeO.refl|apply LeO.none|apply LeO.ite|refine LeO.bind ?_ (fun _ => ?_)
theorem impl_isName.calls (k : Nat) (a0 : ByteArray) (r : Bool) (w : World) (h : impl_isName.f k a0 = some r) :
  Calls Try.prog 59 #[.string a0] w fun e w' => e = .returned (.bool r) ∧ Drawn0 w w':=by
 have H:=h;clear h;unfold impl_isName.f at H;have HC2:=am_ H;clear H;go_enter Try.func59,Try.ntmps59;go_upto_region 1 with (fail)
 go_cut [15] (fun v15 wc => ∃ (kq : Nat) (x15_1 : Bool),v15 = .bool x15_1 ∧ Aside0 (impl_isName.j0 kq a0 x15_1 = some r) ∧ Aside0 (kq ≤ k) ∧ Drawn0 w wc)
 case first =>
  have H:=HC2.out;clear HC2
  by_cases c3 : a0.toList = ([] : List UInt8)
  ·rw [if_pos c3] at H;have c3b0:=eb_ c3;have c3b1:=en_ c3;clear c3;(first|rw [c3b0]|(simp only [i64_w,i32_w];rw [c3b0])|skip);have H':=am_ H;clear H;go_wp2;go_meet
   case rel => exact ⟨_,(true),rs_,H',⟨by first|omega|exact Nat.le_refl _⟩,by repeat (first|exact Drawn0.refl _|apply Drawn0.step)⟩
  ·rw [if_neg c3] at H;have c3b0:=nb_ c3;have c3b1:=nn_ c3;(first|rw [c3b0]|(simp only [i64_w,i32_w];rw [c3b0])|skip)
   by_cases c4 : (a0.size : Int) > 40
   ·rw [if_pos c4] at H;have c4b0:=dg_ c4;have c4b1 : decide (40 < a0.size) = true:=decide_eq_true (by omega);clear c4;have H':=am_ H;clear H;go_wp2;go_meet
    case rel => exact ⟨_,(true),rs_,H',⟨by first|omega|exact Nat.le_refl _⟩,by repeat (first|exact Drawn0.refl _|apply Drawn0.step)⟩
   ·rw [if_neg c4] at H;have c4b0:=df_ c4;have c4b1 : decide (40 < a0.size) = false:=decide_eq_false (by omega);clear c4;replace H:=is_ H;obtain ⟨c5,H⟩:=H;have c5b0:=decide_eq_true c5;have c5b1 : decide (0 < a0.size) = true:=decide_eq_true (by omega);clear c5;replace H:=bs_ H;obtain ⟨t1001,A7,H⟩:=H;have H':=am_ H;clear H;have p6 : 0 ≤ (0 : Int):=(by omega);have q6 : 0 < a0.size:=(by have : (0 : Int) < (a0.size : Int):=od_;omega);have hx6 : ∀ h : 0 < a0.size,((a0[0]'h).toNat : Int) = bt a0 0:=bt_at a0 0;clear p6;have qi6 : (0 < (a0.size : Int)) = True:=eq_true (od_);replace q6:=eq_true q6;go_wp2_with (first|(go_at_call 99;(with_reducible refine (impl_digitByte.calls (bt a0 0) t1001 _ A7.out).mono ?_);rintro e w' ⟨rfl,⟨nd,rfl⟩⟩));go_meet
    case rel => exact ⟨_,(t1001),rs_,H',⟨by first|omega|exact Nat.le_refl _⟩,by repeat (first|exact Drawn0.refl _|apply Drawn0.step)⟩
 case rest =>
  clear HC2;obtain ⟨kq,x15_1,rfl,HA,HJ1,⟨mc1,rfl⟩⟩:=hcut
  cases kq with
  | zero => exact absurd HA.out (by simp [impl_isName.j0])
  | succ kj1 =>
   have H:=HA.out;clear HA;simp only [impl_isName.j0] at H
   by_cases c8 : x15_1 = true
   ·subst c8;replace H:=it_ H;obtain rfl:=si_ H;go_wp2;go_ret;exact ⟨by first|rfl|(simp;done)|(simp [*];done),by repeat (first|exact Drawn0.refl _|apply Drawn0.step)⟩
   ·replace c8:=Bool.eq_false_iff.mpr c8;subst c8;replace H:=if_ H;have H':=am_ H;clear H;go_wp2
    go_loopg [18] kj1 (fun kq v18 w' => ∃ (x18_2 : Int),v18 = .int .i64 x18_2 ∧ Aside0 (impl_isName.l0 kq a0 (a0.size : Int) x18_2 = some r) ∧ Aside0 (kq ≤ kj1) ∧ Drawn0 w w')
    case atStart => exact ⟨(0),rs_,H',⟨Nat.le_refl _⟩,by repeat (first|exact Drawn0.refl _|apply Drawn0.step)⟩
    case round =>
     clear H';(try clear c8);obtain ⟨x18_2,rfl,HA,HK2,⟨m2,rfl⟩⟩:=hrel
     cases gk with
     | zero => exact absurd HA.out (by simp [impl_isName.l0])
     | succ k2 =>
      have H:=HA.out;clear HA;simp only [impl_isName.l0] at H
      by_cases c9 : x18_2 < (a0.size : Int)
      ·rw [if_pos c9] at H;have c9b0:=decide_eq_true c9;clear c9;replace H:=is_ H;obtain ⟨c10,H⟩:=H;have c10b0:=decide_eq_true c10;clear c10;replace H:=is_ H;obtain ⟨c11,H⟩:=H;have c11b0:=decide_eq_true c11;clear c11;replace H:=bs_ H;obtain ⟨t1002,A13,H⟩:=H
       by_cases c14 : t1002 = true
       ·subst c14;replace H:=it_ H;have H':=am_ H;clear H;have p12 : 0 ≤ (x18_2 : Int):=od_;have q12 : x18_2 < (a0.size : Int):=od_;have hx12:=bt_at a0 x18_2;replace p12:=eq_true p12;replace q12:=eq_true q12;go_wp2_with (first|((with_reducible refine gate_callee (f:=100) rfl ?_);refine gl_ 24 Try.func100 #[.int .u8 (bt a0 x18_2)] ?_;(with_reducible refine (impl_wordByte.calls (bt a0 x18_2) true _ A13.out).mono ?_);rintro e w' ⟨rfl,⟨nd,rfl⟩⟩;refine ⟨_,rfl,?_⟩));go_roundg k2
        case measure => have:=HJ1.out;have:=HK2.out;omega
        case rel => exact ⟨(wrap64 (x18_2 + 1)),rs_,H',⟨by have:=HJ1.out;have:=HK2.out;omega⟩,by repeat (first|exact Drawn0.refl _|apply Drawn0.step)⟩
       ·replace c14:=Bool.eq_false_iff.mpr c14;subst c14;replace H:=if_ H;obtain rfl:=si_ H;have p12 : 0 ≤ (x18_2 : Int):=od_;have q12 : x18_2 < (a0.size : Int):=od_;have hx12:=bt_at a0 x18_2;replace p12:=eq_true p12;replace q12:=eq_true q12;go_wp2_with (first|((with_reducible refine gate_callee (f:=100) rfl ?_);refine gl_ 24 Try.func100 #[.int .u8 (bt a0 x18_2)] ?_;(with_reducible refine (impl_wordByte.calls (bt a0 x18_2) false _ A13.out).mono ?_);rintro e w' ⟨rfl,⟨nd,rfl⟩⟩;refine ⟨_,rfl,?_⟩));go_ret;exact ⟨by first|rfl|(simp;done)|(simp [*];done),by repeat (first|exact Drawn0.refl _|apply Drawn0.step)⟩
      ·rw [if_neg c9] at H;have c9b0:=decide_eq_false c9;clear c9;obtain rfl:=si_ H;go_wp2;go_ret;exact ⟨by first|rfl|(simp;done)|(simp [*];done),by repeat (first|exact Drawn0.refl _|apply Drawn0.step)⟩
def impl_printed.l0 : Nat → ByteArray → Int → Int → Option (Bool)
 | 0,_,_,_ => none
 | k + 1,x0,x11,x12 => if x12 < x11 then (if 0 ≤ x12 then (if x12 < (x0.size : Int) then (if (bt x0 x12) < 32 then (some false) else (if (bt x0 x12) > 126 then (some false) else (impl_printed.l0 k x0 x11 (wrap64 (x12 + 1))))) else (none)) else (none)) else (some true)
def impl_printed.f (k : Nat) (a0 : ByteArray) (a1 : Int) : Option (Bool):=if (a0.size : Int) > a1 then (some false) else (impl_printed.l0 k a0 (a0.size : Int) 0)
theorem impl_printed.mono_l : ∀ k,(∀ y0 y1 y2,LeO (impl_printed.l0 k y0 y1 y2) (impl_printed.l0 (k + 1) y0 y1 y2))
 | 0 => fun _ _ _ r h => by simp [impl_printed.l0] at h
 | k + 1 => by
  have ih0:=impl_printed.mono_l k
  ·intro y0 y1 y2
   unfold impl_printed.l0
   repeat' with_reducible first|apply ih0|apply LeO.refl|apply LeO.none|apply LeO.ite|refine LeO.bind ?_ (fun _ => ?_)
theorem impl_printed.mono : ∀ a0 a1 k,LeO (impl_printed.f k a0 a1) (impl_printed.f (k + 1) a0 a1):=by
 intro a0 a1 k
 have ih0:=impl_printed.mono_l k
 unfold impl_printed.f
 repeat' with_reducible first|apply ih0|apply LeO.refl|apply LeO.none|apply LeO.ite|refine LeO.bind ?_ (fun _ => ?_)
theorem impl_printed.calls (k : Nat) (a0 : ByteArray) (a1 : Int) (r : Bool) (w : World) (h : impl_printed.f k a0 a1 = some r) :
  Calls Try.prog 95 #[.string a0,.int .i64 a1] w fun e w' => e = .returned (.bool r) ∧ Drawn0 w w':=by
 have H:=h;clear h;unfold impl_printed.f at H
 by_cases c3 : (a0.size : Int) > a1
 ·rw [if_pos c3] at H;have c3b0:=dg_ c3;clear c3;obtain rfl:=si_ H;go_enter Try.func95,Try.ntmps95;go_wp2;go_ret;exact ⟨by first|rfl|(simp;done)|(simp [*];done),by repeat (first|exact Drawn0.refl _|apply Drawn0.step)⟩
 ·rw [if_neg c3] at H;have c3b0:=df_ c3;clear c3;have H':=am_ H;clear H;go_enter Try.func95,Try.ntmps95;go_wp2
  go_loopg [12] k (fun kq v12 w' => ∃ (x12_1 : Int),v12 = .int .i64 x12_1 ∧ Aside0 (impl_printed.l0 kq a0 (a0.size : Int) x12_1 = some r) ∧ Aside0 (kq ≤ k) ∧ Drawn0 w w')
  case atStart => exact ⟨(0),rs_,H',⟨Nat.le_refl _⟩,by repeat (first|exact Drawn0.refl _|apply Drawn0.step)⟩
  case round =>
   clear H';(try clear c3);(try clear c3b0);obtain ⟨x12_1,rfl,HA,HK1,⟨m1,rfl⟩⟩:=hrel
   cases gk with
   | zero => exact absurd HA.out (by simp [impl_printed.l0])
   | succ k1 =>
    have H:=HA.out;clear HA;simp only [impl_printed.l0] at H
    by_cases c4 : x12_1 < (a0.size : Int)
    ·rw [if_pos c4] at H;have c4b0:=decide_eq_true c4;clear c4;replace H:=is_ H;obtain ⟨c5,H⟩:=H;have c5b0:=decide_eq_true c5;clear c5;replace H:=is_ H;obtain ⟨c6,H⟩:=H;have c6b0:=decide_eq_true c6;clear c6
     by_cases c8 : (bt a0 x12_1) < 32
     ·rw [if_pos c8] at H;have c8b0:=decide_eq_true c8;clear c8;obtain rfl:=si_ H;have p7 : 0 ≤ (x12_1 : Int):=od_;have q7 : x12_1 < (a0.size : Int):=od_;have hx7:=bt_at a0 x12_1;replace p7:=eq_true p7;replace q7:=eq_true q7;go_wp2;go_ret;exact ⟨by first|rfl|(simp;done)|(simp [*];done),by repeat (first|exact Drawn0.refl _|apply Drawn0.step)⟩
     ·rw [if_neg c8] at H;have c8b0:=decide_eq_false c8;clear c8
      by_cases c10 : (bt a0 x12_1) > 126
      ·rw [if_pos c10] at H;have c10b0:=dg_ c10;clear c10;obtain rfl:=si_ H;have p7 : 0 ≤ (x12_1 : Int):=od_;have q7 : x12_1 < (a0.size : Int):=od_;have hx7:=bt_at a0 x12_1;replace p7:=eq_true p7;replace q7:=eq_true q7;have p9 : 0 ≤ (x12_1 : Int):=od_;have q9 : x12_1 < (a0.size : Int):=od_;have hx9:=bt_at a0 x12_1;replace p9:=eq_true p9;replace q9:=eq_true q9;go_wp2;go_ret;exact ⟨by first|rfl|(simp;done)|(simp [*];done),by repeat (first|exact Drawn0.refl _|apply Drawn0.step)⟩
      ·rw [if_neg c10] at H;have c10b0:=df_ c10;clear c10;have H':=am_ H;clear H;have p7 : 0 ≤ (x12_1 : Int):=od_;have q7 : x12_1 < (a0.size : Int):=od_;have hx7:=bt_at a0 x12_1;replace p7:=eq_true p7;replace q7:=eq_true q7;have p9 : 0 ≤ (x12_1 : Int):=od_;have q9 : x12_1 < (a0.size : Int):=od_;have hx9:=bt_at a0 x12_1;replace p9:=eq_true p9;replace q9:=eq_true q9;go_wp2;go_roundg k1
       case measure => have:=HK1.out;omega
       case rel => exact ⟨(wrap64 (x12_1 + 1)),rs_,H',⟨by have:=HK1.out;omega⟩,by repeat (first|exact Drawn0.refl _|apply Drawn0.step)⟩
    ·rw [if_neg c4] at H;have c4b0:=decide_eq_false c4;clear c4;obtain rfl:=si_ H;go_wp2;go_ret;exact ⟨by first|rfl|(simp;done)|(simp [*];done),by repeat (first|exact Drawn0.refl _|apply Drawn0.step)⟩
def impl_isValue.f (k : Nat) (a0 : ByteArray) : Option (Bool):=if a0.toList = ([] : List UInt8) then (some false) else ((impl_printed.f k a0 100).bind fun t1001 => (some t1001))
theorem impl_isValue.mono : ∀ a0 k,LeO (impl_isValue.f k a0) (impl_isValue.f (k + 1) a0):=by
 intro a0 k
 unfold impl_isValue.f
 repeat' with_reducible first|apply impl_printed.mono|apply LeO.refl|apply LeO.none|apply LeO.ite|refine LeO.bind ?_ (fun _ => ?_)
theorem impl_isValue.calls (k : Nat) (a0 : ByteArray) (r : Bool) (w : World) (h : impl_isValue.f k a0 = some r) :
  Calls Try.prog 60 #[.string a0] w fun e w' => e = .returned (.bool r) ∧ Drawn0 w w':=by
 have H:=h;clear h;unfold impl_isValue.f at H
 by_cases c2 : a0.toList = ([] : List UInt8)
 ·rw [if_pos c2] at H;have c2b0:=eb_ c2;have c2b1:=en_ c2;clear c2;obtain rfl:=si_ H;go_enter Try.func60,Try.ntmps60;go_wp2;go_ret;exact ⟨by first|rfl|(simp;done)|(simp [*];done),by repeat (first|exact Drawn0.refl _|apply Drawn0.step)⟩
 ·rw [if_neg c2] at H;have c2b0:=nb_ c2;have c2b1:=nn_ c2;replace H:=bs_ H;obtain ⟨t1001,A3,H⟩:=H;obtain rfl:=si_ H;go_enter Try.func60,Try.ntmps60;go_wp2_with (first|(go_at_call 95;(with_reducible refine (impl_printed.calls k a0 100 t1001 _ A3.out).mono ?_);rintro e w' ⟨rfl,⟨nd,rfl⟩⟩));go_ret;exact ⟨by first|rfl|(simp;done)|(simp [*];done),by repeat (first|exact Drawn0.refl _|apply Drawn0.step)⟩
def impl_GoodLabels.l0 : Nat → List (S56) → List (S56) → Int → Int → Option (Bool)
 | 0,_,_,_,_ => none
 | k + 1,x0,x8,x9,x10 => if x10 < x9 then (if 0 ≤ x10 then (if x10 < (x8.length : Int) then ((impl_isName.f k ((rd_T56 x8 x10).f0)).bind fun t1003 => (if t1003 = true then ((impl_isValue.f k ((rd_T56 x8 x10).f1)).bind fun t1004 => (if t1004 = true then (if x10 > 0 then (if 0 ≤ (wrap64 (x10 - 1)) then (if (wrap64 (x10 - 1)) < (x0.length : Int) then (if ((Op.bytesLess (((rd_T56 x0 (wrap64 (x10 - 1))).f0).toList) (((rd_T56 x8 x10).f0).toList)) = true) then (impl_GoodLabels.l0 k x0 x8 x9 (wrap64 (x10 + 1))) else (some false)) else (none)) else (none)) else (impl_GoodLabels.l0 k x0 x8 x9 (wrap64 (x10 + 1)))) else (some false))) else (some false))) else (none)) else (none)) else (some true)
def impl_GoodLabels.f (k : Nat) (l0 : List (S56)) : Option (Bool):=if (l0.length : Int) > 20 then (some false) else (impl_GoodLabels.l0 k l0 l0 (l0.length : Int) 0)
theorem impl_GoodLabels.mono_l : ∀ k,(∀ y0 y1 y2 y3,LeO (impl_GoodLabels.l0 k y0 y1 y2 y3) (impl_GoodLabels.l0 (k + 1) y0 y1 y2 y3))
 | 0 => fun _ _ _ _ r h => by simp [impl_GoodLabels.l0] at h
 | k + 1 => by
  have ih0:=impl_GoodLabels.mono_l k
  ·intro y0 y1 y2 y3
   unfold impl_GoodLabels.l0
   repeat' with_reducible first|apply ih0|apply impl_isName.mono|apply impl_isValue.mono|apply LeO.refl|apply LeO.none|apply LeO.ite|refine LeO.bind ?_ (fun _ => ?_)
theorem impl_GoodLabels.mono : ∀ a0 k,LeO (impl_GoodLabels.f k a0) (impl_GoodLabels.f (k + 1) a0):=by
 intro a0 k
 have ih0:=impl_GoodLabels.mono_l k
 unfold impl_GoodLabels.f
 repeat' with_reducible first|apply ih0|apply impl_isName.mono|apply impl_isValue.mono|apply LeO.refl|apply LeO.none|apply LeO.ite|refine LeO.bind ?_ (fun _ => ?_)
theorem impl_GoodLabels.calls (k : Nat) (A0 : Option Addr) (c0 : Nat) (l0 : List (S56)) (r : Bool) (w : World) (hr0 : Kd.C k56 w A0 l0.length l0) (hc0 : l0.length ≤ c0) (h : impl_GoodLabels.f k l0 = some r) :
  Calls Try.prog 31 #[.slice A0 l0.length c0] w fun e w' => e = .returned (.bool r) ∧ Below w.heap.size w w':=by
 have hu56:=Try.underlying56;have HR0:=am_ hr0;have HC0:=am_ hc0;clear hr0 hc0;have HB:=am_ (Below.refl w.heap.size w);have H:=h;clear h;unfold impl_GoodLabels.f at H
 by_cases c2 : (l0.length : Int) > 20
 ·rw [if_pos c2] at H;have c2b0:=dg_ c2;have c2b1 : decide (20 < l0.length) = true:=decide_eq_true (by omega);clear c2;obtain rfl:=si_ H;go_enter Try.func31,Try.ntmps31;go_wp2;go_ret;exact ⟨rf_,bl_⟩
 ·rw [if_neg c2] at H;have c2b0:=df_ c2;have c2b1 : decide (20 < l0.length) = false:=decide_eq_false (by omega);clear c2;have H':=am_ H;clear H;go_enter Try.func31,Try.ntmps31;go_wp2
  go_loopg [10] k (fun kq v10 w' => ∃ (x10_1 : Int),v10 = .int .i64 x10_1 ∧ Aside0 (impl_GoodLabels.l0 kq l0 l0 (l0.length : Int) x10_1 = some r) ∧ Aside0 (kq ≤ k) ∧ Aside0 (Below w.heap.size w w'))
  case atStart => exact ⟨(0),rs_,H',⟨Nat.le_refl _⟩,⟨bl_⟩⟩
  case round =>
   clear H';(try clear c2);(try clear c2b0);(try clear c2b1);obtain ⟨x10_1,rfl,HA,HK1,HB⟩:=hrel
   cases gk with
   | zero => exact absurd HA.out (by simp [impl_GoodLabels.l0])
   | succ k1 =>
    have H:=HA.out;clear HA;simp only [impl_GoodLabels.l0] at H
    by_cases c3 : x10_1 < (l0.length : Int)
    ·rw [if_pos c3] at H;have c3b0:=decide_eq_true c3;clear c3;replace H:=is_ H;obtain ⟨c4,H⟩:=H;have c4b0:=decide_eq_true c4;clear c4;replace H:=is_ H;obtain ⟨c5,H⟩:=H;have c5b0:=decide_eq_true c5;clear c5;replace H:=bs_ H;obtain ⟨t1003,A6,H⟩:=H
     by_cases c7 : t1003 = true
     ·subst c7;replace H:=it_ H;replace H:=bs_ H;obtain ⟨t1004,A8,H⟩:=H
      by_cases c9 : t1004 = true
      ·subst c9;replace H:=it_ H
       by_cases c10 : x10_1 > 0
       ·rw [if_pos c10] at H;have c10b0:=dg_ c10;clear c10;obtain ⟨ji11,hji11⟩ : ∃ j_ : Int,(wrap64 (x10_1 - 1)) = j_:=⟨_,rfl⟩;replace H : (if 0 ≤ (ji11) then (if (ji11) < (l0.length : Int) then (if ((Op.bytesLess (((rd_T56 l0 (ji11)).f0).toList) (((rd_T56 l0 x10_1).f0).toList)) = true) then (impl_GoodLabels.l0 k1 l0 l0 (l0.length : Int) (wrap64 (x10_1 + 1))) else (some false)) else (none)) else (none)) = some r:=by first|(rw [hji11] at H;exact H)|(simp only [hji11] at H ⊢;exact H)
        (try rw [hji11] at A6);(try rw [hji11] at A8);have hji11w : (IntKind.i64.wrap (x10_1 - 1)) = ji11:=(i64_w _).trans hji11;replace H:=is_ H;obtain ⟨c12,H⟩:=H;have c12b0:=decide_eq_true c12;clear c12;replace H:=is_ H;obtain ⟨c13,H⟩:=H;have c13b0:=decide_eq_true c13;clear c13
        by_cases c14 : ((Op.bytesLess (((rd_T56 l0 (ji11)).f0).toList) (((rd_T56 l0 x10_1).f0).toList)) = true)
        ·rw [if_pos c14] at H;have c14b0 : (Op.bytesLess (((rd_T56 l0 (ji11)).f0).toList) (((rd_T56 l0 x10_1).f0).toList)) = true:=c14;clear c14;have H':=am_ H;clear H;have p1001 : 0 ≤ (x10_1 : Int):=od_;have q1001 : x10_1 < (l0.length : Int):=od_;obtain ⟨ad1001,e1001,hx1001_0,hx1001_1⟩:=at_T56 HR0.out x10_1 p1001 q1001
         cases e1001
         replace hx1001_0:=kp_ HB hx1001_0;replace hx1001_1:=kp_ HB hx1001_1;replace p1001:=eq_true p1001;replace q1001:=eq_true q1001;go_wp2_with (first|((with_reducible refine gate_dst (N:=4) rfl ?_);refine bx_ 4 #[.string (⟨#[]⟩ : ByteArray),.string (⟨#[]⟩ : ByteArray)] 56 ?_;intro gb1002 hg w15 hbox hb;have BK1002:=am_ (hbox);have GW1002:=am_ (gs_ hg : w.heap.size ≤ gb1002);replace HB:=am_ (below_step bl_ hb);have GE1002:=GW1002;clear hb hbox hg;have hz16:=bk2_ BK1002));(repeat (go_quiet (first|(go_at_call 59;(with_reducible refine (impl_isName.calls k1 ((rd_T56 l0 x10_1).f0) true _ A6.out).mono ?_);rintro e w' ⟨rfl,⟨nd,rfl⟩⟩;(try exact dd_))|(go_at_call 60;(with_reducible refine (impl_isValue.calls k1 ((rd_T56 l0 x10_1).f1) true _ A8.out).mono ?_);rintro e w' ⟨rfl,⟨nd,rfl⟩⟩;(try exact dd_);have p1005 : 0 ≤ ((ji11) : Int):=od_;have q1005 : (ji11) < (l0.length : Int):=od_;obtain ⟨ad1005,e1005,hx1005_0,hx1005_1⟩:=at_T56 HR0.out (ji11) p1005 q1005;obtain rfl : ad1001 = ad1005:=(by injection e1005);have hn1005_0 : ad1001.block ≠ gb1002:=hb_ hx1005_0 GW1002;have hn1005_1 : ad1001.block ≠ gb1002:=hb_ hx1005_0 GW1002;replace hx1005_0:=kp_ HB hx1005_0;replace hx1005_1:=kp_ HB hx1005_1;replace hx1005_0:=cf_ gb1002 0 hn1005_0 (.string ((rd_T56 l0 x10_1).f0)) hx1005_0;replace hx1005_1:=cf_ gb1002 0 hn1005_0 (.string ((rd_T56 l0 x10_1).f0)) hx1005_1;replace hx1005_0:=cf_ gb1002 1 hn1005_1 (.string ((rd_T56 l0 x10_1).f1)) hx1005_0;replace hx1005_1:=cf_ gb1002 1 hn1005_1 (.string ((rd_T56 l0 x10_1).f1)) hx1005_1;(try have hy1005_0:=fun (n_ : Nat) => (show ((((w15.drewN n_).setCell ⟨gb1002,0,none⟩ (.string ((rd_T56 l0 x10_1).f0))).setCell ⟨gb1002,1,none⟩ (.string ((rd_T56 l0 x10_1).f1)))).cell? _ = some _ from hx1005_0));(try have hy1005_1:=fun (n_ : Nat) => (show ((((w15.drewN n_).setCell ⟨gb1002,0,none⟩ (.string ((rd_T56 l0 x10_1).f0))).setCell ⟨gb1002,1,none⟩ (.string ((rd_T56 l0 x10_1).f1)))).cell? _ = some _ from hx1005_1));clear hn1005_0;clear hn1005_1;replace p1005:=eq_true p1005;replace q1005:=eq_true q1005));try go_wp2));go_roundg k1
         case measure => have:=HK1.out;omega
         case rel => exact ⟨(wrap64 (x10_1 + 1)),rs_,H',⟨by have:=HK1.out;omega⟩,⟨bg_⟩⟩
        ·rw [if_neg c14] at H;have c14b0 : (Op.bytesLess (((rd_T56 l0 (ji11)).f0).toList) (((rd_T56 l0 x10_1).f0).toList)) = false:=by simpa using c14
         clear c14;obtain rfl:=si_ H;have p1001 : 0 ≤ (x10_1 : Int):=od_;have q1001 : x10_1 < (l0.length : Int):=od_;obtain ⟨ad1001,e1001,hx1001_0,hx1001_1⟩:=at_T56 HR0.out x10_1 p1001 q1001
         cases e1001
         replace hx1001_0:=kp_ HB hx1001_0;replace hx1001_1:=kp_ HB hx1001_1;replace p1001:=eq_true p1001;replace q1001:=eq_true q1001;go_wp2_with (first|((with_reducible refine gate_dst (N:=4) rfl ?_);refine bx_ 4 #[.string (⟨#[]⟩ : ByteArray),.string (⟨#[]⟩ : ByteArray)] 56 ?_;intro gb1002 hg w17 hbox hb;have BK1002:=am_ (hbox);have GW1002:=am_ (gs_ hg : w.heap.size ≤ gb1002);replace HB:=am_ (below_step bl_ hb);have GE1002:=GW1002;clear hb hbox hg;have hz18:=bk2_ BK1002));(repeat (go_quiet (first|(go_at_call 59;(with_reducible refine (impl_isName.calls k1 ((rd_T56 l0 x10_1).f0) true _ A6.out).mono ?_);rintro e w' ⟨rfl,⟨nd,rfl⟩⟩;(try exact dd_))|(go_at_call 60;(with_reducible refine (impl_isValue.calls k1 ((rd_T56 l0 x10_1).f1) true _ A8.out).mono ?_);rintro e w' ⟨rfl,⟨nd,rfl⟩⟩;(try exact dd_);have p1005 : 0 ≤ ((ji11) : Int):=od_;have q1005 : (ji11) < (l0.length : Int):=od_;obtain ⟨ad1005,e1005,hx1005_0,hx1005_1⟩:=at_T56 HR0.out (ji11) p1005 q1005;obtain rfl : ad1001 = ad1005:=(by injection e1005);have hn1005_0 : ad1001.block ≠ gb1002:=hb_ hx1005_0 GW1002;have hn1005_1 : ad1001.block ≠ gb1002:=hb_ hx1005_0 GW1002;replace hx1005_0:=kp_ HB hx1005_0;replace hx1005_1:=kp_ HB hx1005_1;replace hx1005_0:=cf_ gb1002 0 hn1005_0 (.string ((rd_T56 l0 x10_1).f0)) hx1005_0;replace hx1005_1:=cf_ gb1002 0 hn1005_0 (.string ((rd_T56 l0 x10_1).f0)) hx1005_1;replace hx1005_0:=cf_ gb1002 1 hn1005_1 (.string ((rd_T56 l0 x10_1).f1)) hx1005_0;replace hx1005_1:=cf_ gb1002 1 hn1005_1 (.string ((rd_T56 l0 x10_1).f1)) hx1005_1;(try have hy1005_0:=fun (n_ : Nat) => (show ((((w17.drewN n_).setCell ⟨gb1002,0,none⟩ (.string ((rd_T56 l0 x10_1).f0))).setCell ⟨gb1002,1,none⟩ (.string ((rd_T56 l0 x10_1).f1)))).cell? _ = some _ from hx1005_0));(try have hy1005_1:=fun (n_ : Nat) => (show ((((w17.drewN n_).setCell ⟨gb1002,0,none⟩ (.string ((rd_T56 l0 x10_1).f0))).setCell ⟨gb1002,1,none⟩ (.string ((rd_T56 l0 x10_1).f1)))).cell? _ = some _ from hx1005_1));clear hn1005_0;clear hn1005_1;replace p1005:=eq_true p1005;replace q1005:=eq_true q1005));try go_wp2));go_ret;exact ⟨by first|rfl|(simp [errW_none,errW_some] <;> rfl)|(simp only [← hji11];first|rfl|(simp [errW_none,errW_some] <;> rfl))|(simp [*,errW_none,errW_some] <;> rfl)|(simp [*,Go.Proofs.Ytfdbbpnmnogddaa.Gt.nil_bne];done),bg_⟩
       ·rw [if_neg c10] at H;have c10b0:=df_ c10;clear c10;have H':=am_ H;clear H;have p1001 : 0 ≤ (x10_1 : Int):=od_;have q1001 : x10_1 < (l0.length : Int):=od_;obtain ⟨ad1001,e1001,hx1001_0,hx1001_1⟩:=at_T56 HR0.out x10_1 p1001 q1001
        cases e1001
        replace hx1001_0:=kp_ HB hx1001_0;replace hx1001_1:=kp_ HB hx1001_1;replace p1001:=eq_true p1001;replace q1001:=eq_true q1001;go_wp2_with (first|((with_reducible refine gate_dst (N:=4) rfl ?_);refine bx_ 4 #[.string (⟨#[]⟩ : ByteArray),.string (⟨#[]⟩ : ByteArray)] 56 ?_;intro gb1002 hg w19 hbox hb;have BK1002:=am_ (hbox);have GW1002:=am_ (gs_ hg : w.heap.size ≤ gb1002);replace HB:=am_ (below_step bl_ hb);have GE1002:=GW1002;clear hb hbox hg;have hz20:=bk2_ BK1002));(repeat (go_quiet (first|(go_at_call 59;(with_reducible refine (impl_isName.calls k1 ((rd_T56 l0 x10_1).f0) true _ A6.out).mono ?_);rintro e w' ⟨rfl,⟨nd,rfl⟩⟩;(try exact dd_))|(go_at_call 60;(with_reducible refine (impl_isValue.calls k1 ((rd_T56 l0 x10_1).f1) true _ A8.out).mono ?_);rintro e w' ⟨rfl,⟨nd,rfl⟩⟩;(try exact dd_)));try go_wp2));go_roundg k1
        case measure => have:=HK1.out;omega
        case rel => exact ⟨(wrap64 (x10_1 + 1)),rs_,H',⟨by have:=HK1.out;omega⟩,⟨bg_⟩⟩
      ·replace c9:=Bool.eq_false_iff.mpr c9;subst c9;replace H:=if_ H;obtain rfl:=si_ H;have p1001 : 0 ≤ (x10_1 : Int):=od_;have q1001 : x10_1 < (l0.length : Int):=od_;obtain ⟨ad1001,e1001,hx1001_0,hx1001_1⟩:=at_T56 HR0.out x10_1 p1001 q1001
       cases e1001
       replace hx1001_0:=kp_ HB hx1001_0;replace hx1001_1:=kp_ HB hx1001_1;replace p1001:=eq_true p1001;replace q1001:=eq_true q1001;go_wp2_with (first|((with_reducible refine gate_dst (N:=4) rfl ?_);refine bx_ 4 #[.string (⟨#[]⟩ : ByteArray),.string (⟨#[]⟩ : ByteArray)] 56 ?_;intro gb1002 hg w21 hbox hb;have BK1002:=am_ (hbox);have GW1002:=am_ (gs_ hg : w.heap.size ≤ gb1002);replace HB:=am_ (below_step bl_ hb);have GE1002:=GW1002;clear hb hbox hg;have hz22:=bk2_ BK1002));(repeat (go_quiet (first|(go_at_call 59;(with_reducible refine (impl_isName.calls k1 ((rd_T56 l0 x10_1).f0) true _ A6.out).mono ?_);rintro e w' ⟨rfl,⟨nd,rfl⟩⟩;(try exact dd_))|(go_at_call 60;(with_reducible refine (impl_isValue.calls k1 ((rd_T56 l0 x10_1).f1) false _ A8.out).mono ?_);rintro e w' ⟨rfl,⟨nd,rfl⟩⟩;(try exact dd_)));try go_wp2));go_ret;exact ⟨rf_,bg_⟩
     ·replace c7:=Bool.eq_false_iff.mpr c7;subst c7;replace H:=if_ H;obtain rfl:=si_ H;have p1001 : 0 ≤ (x10_1 : Int):=od_;have q1001 : x10_1 < (l0.length : Int):=od_;obtain ⟨ad1001,e1001,hx1001_0,hx1001_1⟩:=at_T56 HR0.out x10_1 p1001 q1001
      cases e1001
      replace hx1001_0:=kp_ HB hx1001_0;replace hx1001_1:=kp_ HB hx1001_1;replace p1001:=eq_true p1001;replace q1001:=eq_true q1001;go_wp2_with (first|((with_reducible refine gate_dst (N:=4) rfl ?_);refine bx_ 4 #[.string (⟨#[]⟩ : ByteArray),.string (⟨#[]⟩ : ByteArray)] 56 ?_;intro gb1002 hg w23 hbox hb;have BK1002:=am_ (hbox);have GW1002:=am_ (gs_ hg : w.heap.size ≤ gb1002);replace HB:=am_ (below_step bl_ hb);have GE1002:=GW1002;clear hb hbox hg;have hz24:=bk2_ BK1002));(repeat (go_quiet (first|(go_at_call 59;(with_reducible refine (impl_isName.calls k1 ((rd_T56 l0 x10_1).f0) false _ A6.out).mono ?_);rintro e w' ⟨rfl,⟨nd,rfl⟩⟩;(try exact dd_)));try go_wp2));go_ret;exact ⟨rf_,bg_⟩
    ·rw [if_neg c3] at H;have c3b0:=decide_eq_false c3;clear c3;obtain rfl:=si_ H;go_wp2;go_ret;exact ⟨rf_,bl_⟩
def impl_valueOf.l0 : Nat → ByteArray → List (S56) → Int → Int → Option (ByteArray)
 | 0,_,_,_,_ => none
 | k + 1,x1,x7,x8,x9 => if x9 < x8 then (if 0 ≤ x9 then (if x9 < (x7.length : Int) then (if ((rd_T56 x7 x9).f0).toList = x1.toList then (some ((rd_T56 x7 x9).f1)) else (impl_valueOf.l0 k x1 x7 x8 (wrap64 (x9 + 1)))) else (none)) else (none)) else (some (⟨#[]⟩ : ByteArray))
def impl_valueOf.f (k : Nat) (l0 : List (S56)) (a1 : ByteArray) : Option (ByteArray):=impl_valueOf.l0 k a1 l0 (l0.length : Int) 0
theorem impl_valueOf.mono_l : ∀ k,(∀ y0 y1 y2 y3,LeO (impl_valueOf.l0 k y0 y1 y2 y3) (impl_valueOf.l0 (k + 1) y0 y1 y2 y3))
 | 0 => fun _ _ _ _ r h => by simp [impl_valueOf.l0] at h
 | k + 1 => by
  have ih0:=impl_valueOf.mono_l k
  ·intro y0 y1 y2 y3
   unfold impl_valueOf.l0
   repeat' with_reducible first|apply ih0|apply LeO.refl|apply LeO.none|apply LeO.ite|refine LeO.bind ?_ (fun _ => ?_)
theorem impl_valueOf.mono : ∀ a0 a1 k,LeO (impl_valueOf.f k a0 a1) (impl_valueOf.f (k + 1) a0 a1):=by
 intro a0 a1 k
 have ih0:=impl_valueOf.mono_l k
 unfold impl_valueOf.f
 repeat' with_reducible first|apply ih0|apply LeO.refl|apply LeO.none|apply LeO.ite|refine LeO.bind ?_ (fun _ => ?_)
theorem impl_valueOf.calls (k : Nat) (A0 : Option Addr) (c0 : Nat) (l0 : List (S56)) (a1 : ByteArray) (r : ByteArray) (w : World) (hr0 : Kd.C k56 w A0 l0.length l0) (hc0 : l0.length ≤ c0) (h : impl_valueOf.f k l0 a1 = some r) :
  Calls Try.prog 55 #[.slice A0 l0.length c0,.string a1] w fun e w' => e = .returned (.string r) ∧ Below w.heap.size w w':=by
 have hu56:=Try.underlying56;have HR0:=am_ hr0;have HC0:=am_ hc0;clear hr0 hc0;have HB:=am_ (Below.refl w.heap.size w);have H:=h;clear h;unfold impl_valueOf.f at H;have H':=am_ H;clear H;go_enter Try.func55,Try.ntmps55;go_wp2
 go_loopg [9] k (fun kq v9 w' => ∃ (x9_1 : Int),v9 = .int .i64 x9_1 ∧ Aside0 (impl_valueOf.l0 kq a1 l0 (l0.length : Int) x9_1 = some r) ∧ Aside0 (kq ≤ k) ∧ Aside0 (Below w.heap.size w w'))
 case atStart => exact ⟨(0),rs_,H',⟨Nat.le_refl _⟩,⟨bl_⟩⟩
 case round =>
  clear H';obtain ⟨x9_1,rfl,HA,HK1,HB⟩:=hrel
  cases gk with
  | zero => exact absurd HA.out (by simp [impl_valueOf.l0])
  | succ k1 =>
   have H:=HA.out;clear HA;simp only [impl_valueOf.l0] at H
   by_cases c3 : x9_1 < (l0.length : Int)
   ·rw [if_pos c3] at H;have c3b0:=decide_eq_true c3;clear c3;replace H:=is_ H;obtain ⟨c4,H⟩:=H;have c4b0:=decide_eq_true c4;clear c4;replace H:=is_ H;obtain ⟨c5,H⟩:=H;have c5b0:=decide_eq_true c5;clear c5
    by_cases c6 : ((rd_T56 l0 x9_1).f0).toList = a1.toList
    ·rw [if_pos c6] at H;have c6b0:=eb_ c6;have c6b1:=en_ c6;clear c6;obtain rfl:=si_ H;have p1001 : 0 ≤ (x9_1 : Int):=od_;have q1001 : x9_1 < (l0.length : Int):=od_;obtain ⟨ad1001,e1001,hx1001_0,hx1001_1⟩:=at_T56 HR0.out x9_1 p1001 q1001
     cases e1001
     replace hx1001_0:=kp_ HB hx1001_0;replace hx1001_1:=kp_ HB hx1001_1;replace p1001:=eq_true p1001;replace q1001:=eq_true q1001;go_wp2_with (first|((with_reducible refine gate_dst (N:=6) rfl ?_);refine bx_ 6 #[.string (⟨#[]⟩ : ByteArray),.string (⟨#[]⟩ : ByteArray)] 56 ?_;intro gb1002 hg w7 hbox hb;have BK1002:=am_ (hbox);have GW1002:=am_ (gs_ hg : w.heap.size ≤ gb1002);replace HB:=am_ (below_step bl_ hb);have GE1002:=GW1002;clear hb hbox hg;have hz8:=bk2_ BK1002));go_ret;exact ⟨rf_,bg_⟩
    ·rw [if_neg c6] at H;have c6b0:=nb_ c6;have c6b1:=nn_ c6;have H':=am_ H;clear H;have p1001 : 0 ≤ (x9_1 : Int):=od_;have q1001 : x9_1 < (l0.length : Int):=od_;obtain ⟨ad1001,e1001,hx1001_0,hx1001_1⟩:=at_T56 HR0.out x9_1 p1001 q1001
     cases e1001
     replace hx1001_0:=kp_ HB hx1001_0;replace hx1001_1:=kp_ HB hx1001_1;replace p1001:=eq_true p1001;replace q1001:=eq_true q1001;go_wp2_with (first|((with_reducible refine gate_dst (N:=6) rfl ?_);refine bx_ 6 #[.string (⟨#[]⟩ : ByteArray),.string (⟨#[]⟩ : ByteArray)] 56 ?_;intro gb1002 hg w9 hbox hb;have BK1002:=am_ (hbox);have GW1002:=am_ (gs_ hg : w.heap.size ≤ gb1002);replace HB:=am_ (below_step bl_ hb);have GE1002:=GW1002;clear hb hbox hg;have hz10:=bk2_ BK1002));go_roundg k1
     case measure => have:=HK1.out;omega
     case rel => exact ⟨(wrap64 (x9_1 + 1)),rs_,H',⟨by have:=HK1.out;omega⟩,⟨bg_⟩⟩
   ·rw [if_neg c3] at H;have c3b0:=decide_eq_false c3;clear c3;obtain rfl:=si_ H;go_wp2;go_ret;exact ⟨rf_,bl_⟩
def impl_Relabel_92.l0 (P : S82 → Option Bool) (l0 : List (S82)) : Nat → Int → Option Int
 | 0,_ => none
 | k + 1,x8 => if x8 < (l0.length : Int) then (if 0 ≤ x8 then ((P (⟨(rd_T82 l0 x8).f0,(rd_T82 l0 x8).f1,(rd_T82 l0 x8).f2,(rd_T82 l0 x8).f3,(rd_T82 l0 x8).f4,(rd_T82 l0 x8).f5,(rd_T82 l0 x8).f6⟩ : S82)).bind fun b => if b = true then some x8 else impl_Relabel_92.l0 P l0 k (wrap64 (x8 + 1))) else none) else some (-1)
def impl_Relabel_92.f (k : Nat) (P : S82 → Option Bool) (l0 : List (S82)) : Option Int:=impl_Relabel_92.l0 P l0 k 0
theorem impl_Relabel_92.mono_l (P P' : S82 → Option Bool) (hP : ∀ x,LeO (P x) (P' x)) (l0 : List (S82)) : ∀ k x8,LeO (impl_Relabel_92.l0 P l0 k x8) (impl_Relabel_92.l0 P' l0 (k + 1) x8)
 | 0,_ => LeO.none _
 | k + 1,x8 => by
  have ih:=impl_Relabel_92.mono_l P P' hP l0 k
  unfold impl_Relabel_92.l0
  exact LeO.ite (LeO.ite (LeO.bind (hP _) (fun _ => LeO.ite (LeO.refl _) (ih _))) (LeO.none _)) (LeO.refl _)
theorem impl_Relabel_92.mono (P P' : S82 → Option Bool) (hP : ∀ x,LeO (P x) (P' x)) (l0 : List (S82)) (k : Nat) : LeO (impl_Relabel_92.f k P l0) (impl_Relabel_92.f (k + 1) P' l0):=impl_Relabel_92.mono_l P P' hP l0 k _
theorem impl_Relabel_92.calls (k : Nat) (P : S82 → Option Bool) (g : Nat) (vf : Value) (lb : Array Value) (hv : (vf = .func (.func g) #[] lb)) (eg : ∀ args w,(callFunc g args).run Try.prog w = .ok (.enter g args) w) (A0 : Option Addr) (c0 : Nat) (l0 : List (S82)) (r : Int) (w : World) (hr0 : Kd.C k82 w A0 l0.length l0) (hc0 : l0.length ≤ c0)
  (hP : ∀ (W : World) (x : S82) (A_1 : Option Addr) (c_1 : Nat) (b : Bool),Below w.heap.size w W → x.f1.length ≤ c_1 → Kd.C Kd.string W A_1 x.f1.length x.f1 → P x = some b → Calls Try.prog g (#[(.agg #[.int .i64 (x.f0),.slice A_1 (x.f1).length c_1,.string (x.f2),.string (x.f3),.string (x.f4),.string (x.f5),.int .i64 (x.f6)])] ++ lb) W fun e w' => e = .returned (.bool b) ∧ Below W.heap.size W w') (h : impl_Relabel_92.f k P l0 = some r) :
  Calls Try.prog 92 #[.slice A0 l0.length c0,vf] w fun e w' => e = .returned (.int .i64 r) ∧ Below w.heap.size w w':=by
 subst hv
 have hu:=Try.underlying82
 have HR0:=am_ hr0
 have HC0:=am_ hc0
 clear hr0 hc0
 have HB:=am_ (Below.refl w.heap.size w)
 have hP':=am_ hP
 clear hP
 have H':=am_ (show impl_Relabel_92.l0 P l0 k 0 = some r from h)
 clear h
 go_enter Try.func92,Try.ntmps92
 go_wp2
 go_loopg [8] k (fun kq v8 w' => ∃ (x8 : Int),v8 = .int .i64 x8 ∧ Aside0 (impl_Relabel_92.l0 P l0 kq x8 = some r) ∧ Aside0 (Below w.heap.size w w'))
 case atStart => exact ⟨0,rs_,H',⟨bl_⟩⟩
 case round =>
  clear H'
  obtain ⟨x8,rfl,HA,HB⟩:=hrel
  cases gk with
  | zero => exact absurd HA.out (by simp [impl_Relabel_92.l0])
  | succ k1 =>
   have H:=HA.out
   clear HA
   simp only [impl_Relabel_92.l0] at H
   by_cases c4 : x8 < (l0.length : Int)
   ·rw [if_pos c4] at H
    have c4b0 : decide (x8 < (l0.length : Int)) = true:=decide_eq_true c4
    by_cases c5 : 0 ≤ x8
    ·rw [if_pos c5] at H
     have c5b0 : decide (0 ≤ x8) = true:=decide_eq_true c5
     obtain ⟨b,hb0,H⟩:=Option.bind_eq_some_iff.mp H
     have HP0:=am_ hb0
     clear hb0
     obtain ⟨ad,A_1,c_1,e_,hx_0,hx_1,hx_2,hx_3,hx_4,hx_5,hx_6,l_1,g_1⟩:=at_T82 (Kd.C_below HR0.out HB.out) x8 c5 c4
     cases e_
     skip
     have p_:=eq_true c5
     have q_:=eq_true c4
     clear c4 c5
     cases b with
     | true =>
      rw [if_pos rfl] at H
      obtain rfl:=Option.some.inj H
      go_wp2_with (first|((with_reducible refine Calls.mono (hP'.out _ (⟨(rd_T82 l0 x8).f0,(rd_T82 l0 x8).f1,(rd_T82 l0 x8).f2,(rd_T82 l0 x8).f3,(rd_T82 l0 x8).f4,(rd_T82 l0 x8).f5,(rd_T82 l0 x8).f6⟩ : S82) A_1 c_1 true HB.out l_1 g_1 HP0.out) ?_);rintro e w10 ⟨rfl,hb⟩;have n2_:=am_ (below_step HB.out hb);clear HB;have HB:=n2_;clear n2_ hb))
      go_ret
      exact ⟨rf_,bl_⟩
     | false =>
      rw [if_neg (show ¬ (false = true) by decide)] at H
      have H':=am_ H
      clear H
      go_wp2_with (first|((with_reducible refine Calls.mono (hP'.out _ (⟨(rd_T82 l0 x8).f0,(rd_T82 l0 x8).f1,(rd_T82 l0 x8).f2,(rd_T82 l0 x8).f3,(rd_T82 l0 x8).f4,(rd_T82 l0 x8).f5,(rd_T82 l0 x8).f6⟩ : S82) A_1 c_1 false HB.out l_1 g_1 HP0.out) ?_);rintro e w10 ⟨rfl,hb⟩;have n2_:=am_ (below_step HB.out hb);clear HB;have HB:=n2_;clear n2_ hb))
      go_roundg k1
      case measure => omega
      case rel => exact ⟨(wrap64 (x8 + 1)),rs_,H',⟨bl_⟩⟩
    ·rw [if_neg c5] at H
     exact absurd H (by simp)
   ·rw [if_neg c4] at H
    have c4b0 : decide (x8 < (l0.length : Int)) = false:=decide_eq_false c4
    clear c4
    obtain rfl:=Option.some.inj H
    go_wp2
    go_ret
    exact ⟨rf_,bl_⟩
def impl_Relabel_56.f (k : Nat) (P : S82 → Option Bool) (l0 : List (S82)) : Option Bool:=(impl_Relabel_92.f k P l0).bind fun j => some (decide (0 ≤ j))
theorem impl_Relabel_56.mono (P P' : S82 → Option Bool) (hP : ∀ x,LeO (P x) (P' x)) (l0 : List (S82)) (k : Nat) : LeO (impl_Relabel_56.f k P l0) (impl_Relabel_56.f (k + 1) P' l0):=LeO.bind (impl_Relabel_92.mono P P' hP l0 k) (fun _ => LeO.refl _)
theorem impl_Relabel_56.calls (k : Nat) (P : S82 → Option Bool) (g : Nat) (vf : Value) (lb : Array Value) (hv : vf = .func (.func g) #[] lb) (eg : ∀ args w,(callFunc g args).run Try.prog w = .ok (.enter g args) w) (A0 : Option Addr) (c0 : Nat) (l0 : List (S82)) (r : Bool) (w : World) (hr0 : Kd.C k82 w A0 l0.length l0) (hc0 : l0.length ≤ c0)
  (hP : ∀ (W : World) (x : S82) (A_1 : Option Addr) (c_1 : Nat) (b : Bool),Below w.heap.size w W → x.f1.length ≤ c_1 → Kd.C Kd.string W A_1 x.f1.length x.f1 → P x = some b → Calls Try.prog g (#[(.agg #[.int .i64 (x.f0),.slice A_1 (x.f1).length c_1,.string (x.f2),.string (x.f3),.string (x.f4),.string (x.f5),.int .i64 (x.f6)])] ++ lb) W fun e w' => e = .returned (.bool b) ∧ Below W.heap.size W w') (h : impl_Relabel_56.f k P l0 = some r) :
  Calls Try.prog 56 #[.slice A0 l0.length c0,vf] w fun e w' => e = .returned (.bool r) ∧ Below w.heap.size w w':=by
 unfold impl_Relabel_56.f at h
 obtain ⟨j,hj,h⟩:=Option.bind_eq_some_iff.mp h
 obtain rfl:=Option.some.inj h
 have hx:=am_ (impl_Relabel_92.calls k P g vf lb hv eg A0 c0 l0 j w hr0 hc0 hP hj)
 clear hr0 hc0 hP h hj eg
 subst hv
 go_enter Try.func56,Try.ntmps56
 go_wp2_with (first|(go_at_call 92;refine hx.out.mono ?_;rintro e w1 ⟨rfl,hb⟩))
 go_ret
 exact ⟨rfl,hb⟩
def slices_IndexFunc_string_string.l0 (P : ByteArray → Option Bool) (l0 : List ByteArray) : Nat → Int → Option Int
 | 0,_ => none
 | k + 1,x8 => if x8 < (l0.length : Int) then (if 0 ≤ x8 then ((P (rdOf ByteArray.empty l0 x8)).bind fun b => if b = true then some x8 else slices_IndexFunc_string_string.l0 P l0 k (wrap64 (x8 + 1))) else none) else some (-1)
def slices_IndexFunc_string_string.f (k : Nat) (P : ByteArray → Option Bool) (l0 : List ByteArray) : Option Int:=slices_IndexFunc_string_string.l0 P l0 k 0
theorem slices_IndexFunc_string_string.mono_l (P P' : ByteArray → Option Bool) (hP : ∀ x,LeO (P x) (P' x)) (l0 : List ByteArray) : ∀ k x8,LeO (slices_IndexFunc_string_string.l0 P l0 k x8) (slices_IndexFunc_string_string.l0 P' l0 (k + 1) x8)
 | 0,_ => LeO.none _
 | k + 1,x8 => by
  have ih:=slices_IndexFunc_string_string.mono_l P P' hP l0 k
  unfold slices_IndexFunc_string_string.l0
  exact LeO.ite (LeO.ite (LeO.bind (hP _) (fun _ => LeO.ite (LeO.refl _) (ih _))) (LeO.none _)) (LeO.refl _)
theorem slices_IndexFunc_string_string.mono (P P' : ByteArray → Option Bool) (hP : ∀ x,LeO (P x) (P' x)) (l0 : List ByteArray) (k : Nat) : LeO (slices_IndexFunc_string_string.f k P l0) (slices_IndexFunc_string_string.f (k + 1) P' l0):=slices_IndexFunc_string_string.mono_l P P' hP l0 k _
theorem slices_IndexFunc_string_string.calls (k : Nat) (P : ByteArray → Option Bool) (g : Nat) (vf : Value) (lb : Array Value) (hv : (vf = .func (.func g) #[] lb)) (eg : ∀ args w,(callFunc g args).run Try.prog w = .ok (.enter g args) w) (A0 : Option Addr) (c0 : Nat) (l0 : List ByteArray) (r : Int) (w : World) (hr0 : Kd.C Kd.string w A0 l0.length l0) (hc0 : l0.length ≤ c0)
  (hP : ∀ (W : World) (x : ByteArray) (b : Bool),Below w.heap.size w W → P x = some b → Calls Try.prog g (#[(.string (x))] ++ lb) W fun e w' => e = .returned (.bool b) ∧ Below W.heap.size W w') (h : slices_IndexFunc_string_string.f k P l0 = some r) :
  Calls Try.prog 117 #[.slice A0 l0.length c0,vf] w fun e w' => e = .returned (.int .i64 r) ∧ Below w.heap.size w w':=by
 subst hv
 have hu:=Try.underlying9
 have HR0:=am_ hr0
 have HC0:=am_ hc0
 clear hr0 hc0
 have HB:=am_ (Below.refl w.heap.size w)
 have hP':=am_ hP
 clear hP
 have H':=am_ (show slices_IndexFunc_string_string.l0 P l0 k 0 = some r from h)
 clear h
 go_enter Try.func117,Try.ntmps117
 go_wp2
 go_loopg [8] k (fun kq v8 w' => ∃ (x8 : Int),v8 = .int .i64 x8 ∧ Aside0 (slices_IndexFunc_string_string.l0 P l0 kq x8 = some r) ∧ Aside0 (Below w.heap.size w w'))
 case atStart => exact ⟨0,rs_,H',⟨bl_⟩⟩
 case round =>
  clear H'
  obtain ⟨x8,rfl,HA,HB⟩:=hrel
  cases gk with
  | zero => exact absurd HA.out (by simp [slices_IndexFunc_string_string.l0])
  | succ k1 =>
   have H:=HA.out
   clear HA
   simp only [slices_IndexFunc_string_string.l0] at H
   by_cases c4 : x8 < (l0.length : Int)
   ·rw [if_pos c4] at H
    have c4b0 : decide (x8 < (l0.length : Int)) = true:=decide_eq_true c4
    by_cases c5 : 0 ≤ x8
    ·rw [if_pos c5] at H
     have c5b0 : decide (0 ≤ x8) = true:=decide_eq_true c5
     obtain ⟨b,hb0,H⟩:=Option.bind_eq_some_iff.mp H
     have HP0:=am_ hb0
     clear hb0
     obtain ⟨ad,e_,hx_0⟩:=Kd.at_string HR0.out x8 c5 c4
     cases e_
     replace hx_0:=kp_ HB hx_0
     have p_:=eq_true c5
     have q_:=eq_true c4
     clear c4 c5
     cases b with
     | true =>
      rw [if_pos rfl] at H
      obtain rfl:=Option.some.inj H
      go_wp2_with (first|((with_reducible refine Calls.mono (hP'.out _ (rdOf ByteArray.empty l0 x8) true HB.out HP0.out) ?_);rintro e w10 ⟨rfl,hb⟩;have n2_:=am_ (below_step HB.out hb);clear HB;have HB:=n2_;clear n2_ hb))
      go_ret
      exact ⟨rf_,bl_⟩
     | false =>
      rw [if_neg (show ¬ (false = true) by decide)] at H
      have H':=am_ H
      clear H
      go_wp2_with (first|((with_reducible refine Calls.mono (hP'.out _ (rdOf ByteArray.empty l0 x8) false HB.out HP0.out) ?_);rintro e w10 ⟨rfl,hb⟩;have n2_:=am_ (below_step HB.out hb);clear HB;have HB:=n2_;clear n2_ hb))
      go_roundg k1
      case measure => omega
      case rel => exact ⟨(wrap64 (x8 + 1)),rs_,H',⟨bl_⟩⟩
    ·rw [if_neg c5] at H
     exact absurd H (by simp)
   ·rw [if_neg c4] at H
    have c4b0 : decide (x8 < (l0.length : Int)) = false:=decide_eq_false c4
    clear c4
    obtain rfl:=Option.some.inj H
    go_wp2
    go_ret
    exact ⟨rf_,bl_⟩
def slices_ContainsFunc_string_string.f (k : Nat) (P : ByteArray → Option Bool) (l0 : List ByteArray) : Option Bool:=(slices_IndexFunc_string_string.f k P l0).bind fun j => some (decide (0 ≤ j))
theorem slices_ContainsFunc_string_string.mono (P P' : ByteArray → Option Bool) (hP : ∀ x,LeO (P x) (P' x)) (l0 : List ByteArray) (k : Nat) : LeO (slices_ContainsFunc_string_string.f k P l0) (slices_ContainsFunc_string_string.f (k + 1) P' l0):=LeO.bind (slices_IndexFunc_string_string.mono P P' hP l0 k) (fun _ => LeO.refl _)
theorem slices_ContainsFunc_string_string.calls (k : Nat) (P : ByteArray → Option Bool) (g : Nat) (vf : Value) (lb : Array Value) (hv : vf = .func (.func g) #[] lb) (eg : ∀ args w,(callFunc g args).run Try.prog w = .ok (.enter g args) w) (A0 : Option Addr) (c0 : Nat) (l0 : List ByteArray) (r : Bool) (w : World) (hr0 : Kd.C Kd.string w A0 l0.length l0) (hc0 : l0.length ≤ c0)
  (hP : ∀ (W : World) (x : ByteArray) (b : Bool),Below w.heap.size w W → P x = some b → Calls Try.prog g (#[(.string (x))] ++ lb) W fun e w' => e = .returned (.bool b) ∧ Below W.heap.size W w') (h : slices_ContainsFunc_string_string.f k P l0 = some r) :
  Calls Try.prog 93 #[.slice A0 l0.length c0,vf] w fun e w' => e = .returned (.bool r) ∧ Below w.heap.size w w':=by
 unfold slices_ContainsFunc_string_string.f at h
 obtain ⟨j,hj,h⟩:=Option.bind_eq_some_iff.mp h
 obtain rfl:=Option.some.inj h
 have hx:=am_ (slices_IndexFunc_string_string.calls k P g vf lb hv eg A0 c0 l0 j w hr0 hc0 hP hj)
 clear hr0 hc0 hP h hj eg
 subst hv
 go_enter Try.func93,Try.ntmps93
 go_wp2_with (first|(go_at_call 117;refine hx.out.mono ?_;rintro e w1 ⟨rfl,hb⟩))
 go_ret
 exact ⟨rfl,hb⟩
def impl_GoodRelabel_1.f (k : Nat) (a0 : ByteArray) : Option (Bool):=(impl_isName.f k a0).bind fun t1001 => (some (!t1001))
theorem impl_GoodRelabel_1.mono : ∀ a0 k,LeO (impl_GoodRelabel_1.f k a0) (impl_GoodRelabel_1.f (k + 1) a0):=by
 intro a0 k
 unfold impl_GoodRelabel_1.f
 repeat' with_reducible first|apply impl_isName.mono|apply LeO.refl|apply LeO.none|apply LeO.ite|refine LeO.bind ?_ (fun _ => ?_)
theorem impl_GoodRelabel_1.calls (k : Nat) (a0 : ByteArray) (r : Bool) (w : World) (h : impl_GoodRelabel_1.f k a0 = some r) :
  Calls Try.prog 94 #[.string a0] w fun e w' => e = .returned (.bool r) ∧ Drawn0 w w':=by
 have H:=h;clear h;unfold impl_GoodRelabel_1.f at H;replace H:=bs_ H;obtain ⟨t1001,A2,H⟩:=H;obtain rfl:=si_ H;go_enter Try.func94,Try.ntmps94;go_wp2_with (first|((with_reducible refine gate_callee (f:=59) rfl ?_);refine gl_ 4 Try.func59 #[.string a0] ?_;(with_reducible refine (impl_isName.calls k a0 t1001 _ A2.out).mono ?_);rintro e w' ⟨rfl,⟨nd,rfl⟩⟩;refine ⟨_,rfl,?_⟩));go_ret;exact ⟨by first|rfl|(simp;done)|(simp [*];done),by repeat (first|exact Drawn0.refl _|apply Drawn0.step)⟩
def strings_IndexByte.f (a0 : ByteArray) (a1 : Int) : Option (Int):=some (Lib.indexByte a0.data.toList a1.toNat.toUInt8)
theorem strings_IndexByte.calls (a0 : ByteArray) (a1 : Int) (r : Int) (w : World) (h : strings_IndexByte.f a0 a1 = some r) :
  Calls Try.prog 129 #[.string a0,.int .u8 a1] w fun e w' => e = .returned (.int .i64 r) ∧ Drawn0 w w':=by
 obtain rfl:=Option.some.inj h
 exact (Try.strings_IndexByte a0 a1 w).mono (fun e w' hp => ⟨hp.1,by rw [hp.2];exact Drawn0.refl _⟩)
def Rows {α : Type} (d : Kd α) (e : Nat) (w : World) (base : Nat) (ok : Nat → Prop) (xs : List (Option Addr × Nat × Nat)) (o : List (List α)) : Prop:=∃ f : Nat → Nat,∀ (j : Nat) (l : List α),o[j]? = some l → ∃ A c,xs[j]? = some (A,l.length,c) ∧ Kd.R d e w base (fun k => ok k ∧ f k = j) (.slice A l.length c) l
section
variable {α : Type} {d : Kd α} {e eo base g n c : Nat} {w w1 : World} {ok ok' : Nat → Prop} {xs xs' : List (Option Addr × Nat × Nat)} {o : List (List α)}
theorem rows_nil (d : Kd α) (e : Nat) (w : World) (base : Nat) (ok : Nat → Prop) (xs : List (Option Addr × Nat × Nat)) : Rows d e w base ok xs ([] : List (List α)):=⟨fun _ => 0,fun j l h => by simp at h⟩
theorem rows_step (h : Rows d e w base ok xs o) (hm : ∀ k,ok k → k < w.heap.size → w1.heap[k]? = w.heap[k]?) (hok : ∀ k,ok k → k < w.heap.size → ok' k) (hx : ∀ j,j < o.length → xs'[j]? = xs[j]?) : Rows d e w1 base ok' xs' o:=by
  obtain ⟨f,h⟩:=h
  refine ⟨f,fun j l hj => ?_⟩
  obtain ⟨A,c,h1,h2⟩:=h j l hj
  exact ⟨A,c,(hx j (List.getElem?_eq_some_iff.1 hj).1).trans h1,Kd.R_mono (Kd.R_move (Kd.R_bound h2) (fun k hk => hm k hk.1.1 hk.2.2.1)) (fun k hk => ⟨hok k hk.1.1 hk.2.2.1,hk.1.2⟩)⟩
theorem rows_below (h : Rows d e w base ok xs o) (hb : Below w.heap.size w w1) : Rows d e w1 base ok xs o:=rows_step h (fun k _ hk => hb.block k hk) (fun _ hk _ => hk) (fun _ _ => rfl)
theorem rows_alloc (h : Rows d e w base ok xs o) (x : Obj) : Rows d e (w.alloc x) base ok xs o:=rows_below h (below_alloc (Below.refl _ _) x)
theorem rows_drew (h : Rows d e w base ok xs o) : Rows d e w.drew base ok xs o:=rows_below h (below_drew (Below.refl _ _))
theorem rows_drewN (h : Rows d e w base ok xs o) (m : Nat) : Rows d e (w.drewN m) base ok xs o:=rows_below h (pw_below_drewN (Below.refl _ _) m)
theorem rq_ {p q : Prop} (H : Aside0 p) (h : p → q:=by (intro hv_;(with_reducible repeat (first|apply rows_alloc|apply rows_drewN|apply rows_drew));exact hv_)) : q:=h H.out
theorem rows_snoc {A : Option Addr} {l : List α} {m : Nat} (hE : d.E = []) (h : Rows d e w base (fun k => ok k ∧ some k ≠ (.slice A m c : Value).ownBlock) xs o) (hl : xs[o.length]? = some (A,m,c)) (hm : l.length = m) (hr : Kd.R d e w base ok (.slice A m c) l) : Rows d e w base ok xs (o ++ [l]):=by
  subst hm
  obtain ⟨f,h⟩:=h
  refine ⟨fun k => if some k = (.slice A l.length c : Value).ownBlock then o.length else f k,fun j q hj => ?_⟩
  rcases Nat.lt_or_ge j o.length with hlt|hge
  · rw [List.getElem?_append_left hlt] at hj
    obtain ⟨A',c',h1,h2⟩:=h j q hj
    exact ⟨A',c',h1,Kd.R_mono h2 (fun k hk => ⟨hk.1.1,(if_neg hk.1.2).trans hk.2⟩)⟩
  · have : j = o.length:=by
      have:=(List.getElem?_eq_some_iff.1 hj).1
      rw [List.length_append,List.length_singleton] at this
      omega
    subst this
    obtain rfl : l = q:=by simpa using hj
    exact ⟨A,c,hl,Kd.R_mono (Kd.R_tight hE hr) (fun k hk => ⟨hr.1 k hk.symm,if_pos hk⟩)⟩
theorem rows_R (h : Rows d e w base (fun k => k ≠ g) xs o) (hlen : o.length = xs.length) (hO : Kd.R kcut eo w base ok (.slice (some ⟨g,0,none⟩) n c) xs) : Kd.S (Kd.slice e d) eo w base (fun _ => True) (.slice (some ⟨g,0,none⟩) n c) o:=by
  have own:=Kd.own_of_R (enc:=fun x : Option Addr × Nat × Nat => .slice x.1 x.2.1 x.2.2) (h1:=fun _ => rfl) hO
  obtain ⟨f,h⟩:=h
  refine ⟨f,fun _ _ => trivial,encs (fun x : Option Addr × Nat × Nat => .slice x.1 x.2.1 x.2.2) xs,by rw [List.length_zipIdx,hlen];exact own,by rw [encs_length,List.length_zipIdx,hlen];exact (Nat.mul_one _).symm,fun j p hj => ?_⟩
  rw [List.getElem?_zipIdx,Nat.zero_add] at hj
  obtain ⟨l,hl,rfl⟩:=Option.map_eq_some_iff.1 hj
  obtain ⟨A,c',h1,h2⟩:=h j l hl
  obtain ⟨hx,h1⟩:=List.getElem?_eq_some_iff.1 h1
  refine ⟨.slice A l.length c',?_,Kd.R_mono h2 (fun k hk => ⟨⟨trivial,fun he => hk.1 (by simpa [Value.ownBlock] using he)⟩,hk.2⟩)⟩
  show ((encs (fun x : Option Addr × Nat × Nat => Value.slice x.1 x.2.1 x.2.2) xs).drop (j * 1)).take 1 = _
  rw [Nat.mul_one,List.drop_eq_getElem_cons (by rw [encs_length];exact hx)]
  simp [encs,h1]
end
def impl_put.T1 : Bool × List (List Nat × List Nat):=(true,[([],[]),([],[]),([1],[1]),([2],[2]),([],[]),([],[]),([5],[5]),([6],[6]),([4,7],[4,7]),([8],[8]),([],[]),([10],[10]),([9,11],[9,11]),([0,3,0,1,2,3,4,5,6,7,8,9,10,11,12],[0,3]),([13,12,12,0,1,2,3,4,5,6,7,8,9,10,11,12],[12,13])])
def impl_put.B1 : List Nat:=[0,0,2,6,0,0,32,96,240,496,0,1024,4080,8191,16383]
theorem impl_put.tab1 : rtab .any (opsOf Try.f128 1) = impl_put.T1:=by kernel_rfl
theorem impl_put.bits1 : waitsOk impl_put.T1.2 impl_put.B1 = true:=by kernel_rfl
theorem impl_put.calls (x : S135) (gb g n c m : Nat) (J : Int) (xs : List (Option Addr × Nat × Nat)) (Ai : Option Addr) (ci : Nat) (ps : List S135) (w0 w : World) (hB : Below w0.heap.size w0 w) (hJ : ((n : Nat) : Int) - 1 = J) (hn : n ≤ 1000) (h1 : 1 ≤ n) (hm : ps.length = m) (hml : m ≤ 1000)
    (hbk : w.heap[gb]? = some (.cells #[.slice (some ⟨g,0,none⟩) n c] 123 (0,0))) (hS : w.cell? ⟨g,J.toNat,none⟩ = some (.slice Ai m ci)) (hO : Kd.R kcut 136 w w0.heap.size (fun k => k = g) (.slice (some ⟨g,0,none⟩) n c) xs) (hI : Kd.R k135 135 w w0.heap.size (fun k => k ≠ gb ∧ k ≠ g) (.slice Ai m ci) ps) :
    Calls Try.prog 128 #[.agg #[.int .u8 x.f0,.bool x.f1,.bool x.f2],.pointer (some ⟨gb,0,none⟩)] w fun e w' => (∃ v,e = .returned v) ∧ Below w0.heap.size w0 w' ∧ w'.heap[gb]? = some (.cells #[.slice (some ⟨g,0,none⟩) n c] 123 (0,0)) ∧ ∃ Aj cj,Kd.R kcut 136 w' w0.heap.size (fun k => k = g) (.slice (some ⟨g,0,none⟩) n c) (xs.set J.toNat (Aj,m + 1,cj)) ∧ Kd.R k135 135 w' w0.heap.size (fun k => k ≠ gb ∧ k ≠ g) (.slice Aj (m + 1) cj) (ps ++ [x]) ∧ (∀ k,k < w.heap.size → k ≠ g → some k ≠ (.slice Ai m ci : Value).ownBlock → w'.heap[k]? = w.heap[k]?) ∧ ((.slice Aj (m + 1) cj : Value).ownBlock = (.slice Ai m ci : Value).ownBlock ∨ ∃ b,(.slice Aj (m + 1) cj : Value).ownBlock = some b ∧ w.heap.size ≤ b):=by
  have hu:=Try.underlying135
  have iP : (Try.prog.info? 135).map (fun i => (i.zero,i.size,i.bytes)) = some (some (.agg #[.int .u8 0,.bool false,.bool false]),3,3):=by kernel_rfl
  have HB:=am_ hB
  have BK:=am_ hbk
  have HS1:=am_ hS
  have HO:=am_ hO
  have HI:=am_ hI
  have HGL:=am_ (Kd.R_lt hO g rfl)
  have HL:=am_ (show ps.length ≤ 1000 by omega)
  have HM:=am_ hm
  have hJw : IntKind.i64.wrap ((n : Int) - 1) = J:=by rw [IntKind.wrap_i64];omega
  have hJv : wrap64 ((n : Int) - 1) = J:=by unfold wrap64;omega
  have hj0 : (0 ≤ J) = True:=eq_true (by omega)
  have hj1 : (J < (n : Int)) = True:=eq_true (by omega)
  have HN:=am_ hn
  clear hB hbk hS hO hI hm hn h1 hml hJ
  go_enter Try.func128,Try.ntmps128
  go_wp2_with (first|((with_reducible refine gate_dst (N:=2) rfl ?_);refine bx_ 2 #[.int .u8 x.f0,.bool x.f1,.bool x.f2] 135 ?_;intro gx hg w8 hbox hb;have n0_:=am_ (Kd.R_below HO.out hb);have n1_:=am_ (Kd.R_below (Kd.R_elderB HI.out gx (Nat.le_of_eq hg.symm)) hb);have n2_:=am_ (blk_below (g:=gb) BK.out hb);have n3_:=am_ (below_step HB.out hb);have n4_:=am_ (kp_ ⟨hb⟩ HS1.out);have n5_:=am_ (Nat.lt_of_lt_of_le HGL.out hb.size);have n6_:=am_ hb;have BX:=am_ hbox;clear HO HI BK HB HS1 HGL;have HO:=n0_;have HI:=n1_;have BK:=n2_;have HB:=n3_;have HS1:=n4_;have HGL:=n5_;have HK:=n6_;clear n0_ n1_ n2_ n3_ n4_ n5_ n6_ hb hbox hg))
  have n0_:=am_ (Kd.R_drew HO.out)
  have n1_:=am_ (Kd.R_drew HI.out)
  have n2_:=am_ (blk_drew BK.out)
  have n3_:=am_ (below_drew1 HB.out)
  have n4_:=am_ (show w8.drew.cell? ⟨g,J.toNat,none⟩ = some (.slice Ai m ci) from HS1.out)
  have n5_:=am_ (show g < w8.drew.heap.size from HGL.out)
  have n6_:=am_ (blk_drew BX.out)
  have n7_:=am_ (below_drew1 HK.out)
  clear HO HI BK HB HS1 HGL BX HK
  have HO:=n0_
  have HI:=n1_
  have BK:=n2_
  have HB:=n3_
  have HS1:=n4_
  have HGL:=n5_
  have BX:=n6_
  have HK:=n7_
  clear n0_ n1_ n2_ n3_ n4_ n5_ n6_ n7_
  refine start_ (n:=15) (S:=fun w' => w'.cell? ⟨gb,0,none⟩ = some (.slice (some ⟨g,0,none⟩) n c) ∧ w'.cell? ⟨g,J.toNat,none⟩ = some (.slice Ai m ci) ∧ w'.cell? ⟨gx,0,none⟩ = some (.int .u8 x.f0) ∧ w'.cell? ⟨gx,1,none⟩ = some (.bool x.f1) ∧ w'.cell? ⟨gx,2,none⟩ = some (.bool x.f2)) (ds:=[14]) (bz 15 0) (by kernel_rfl) rfl rfl ⟨(bc1_0 BK),HS1.out,(bc3_0 BX),(bc3_1 BX),(bc3_2 BX)⟩ (fun hHeld => ?_)
  refine with_tabW impl_put.tab1 impl_put.bits1 (fun HT_ HW_ => ?_)
  generalize w8.drew = w9 at BK BX HB HO HI HS1 HGL HK hHeld ⊢
  refine tz_ 0 3 1 ?_
  refine tz_ 1 4 3 ?_
  refine pz_ 2 5 7 ?_
  refine pz_ 3 6 15 ?_
  refine tz_ 4 7 31 ?_
  refine tz_ 5 8 63 ?_
  refine pz_ 6 9 127 ?_
  refine pz_ 7 10 255 ?_
  refine pz_ 8 11 511 ?_
  refine tz_ 9 12 1023 ?_
  refine tz_ 10 13 2047 ?_
  refine one_ (i:=11) (N:=some 14) (bz 15 4095) rfl rfl (one_of HT_.out (by kernel_rfl)) (by decide) (fun K hK => ?_)
  refine value_ (w1:=?_) (v:=?_) (by rfl) rfl ?_ ?_
  rotate_left 2
  · go_simp
    constructor
    · rfl
    · rfl
  refine hK.out _ _ ⟨(blk_cell (blk_alloc BK.out _) 0).trans rfl,kp_ ⟨below_alloc (Below.refl _ _) _⟩ HS1.out,(blk_cell (blk_alloc BX.out _) 0).trans rfl,(blk_cell (blk_alloc BX.out _) 1).trans rfl,(blk_cell (blk_alloc BX.out _) 2).trans rfl⟩ (fun hHeld => ?_)
  clear hK K
  refine norm_ (a':=?_) ?_ ?_
  rotate_left
  · show Act.put _ (some 14) _ = _
    simp only [Act.put,List.setIfInBounds_toArray,List.set_cons_zero,List.set_cons_succ,i64_w,i32_w]
    rfl
  refine one_ (i:=12) (N:=some 15) (bz 15 8191) rfl rfl (one_of HT_.out (by kernel_rfl)) (by decide) (fun K hK => ?_)
  refine Kd.R_append_step k135 (w0:=w0) w0.heap.size (by rfl) (.tmp 12) (.tmp 14) 136 135 (.agg #[.int .u8 0,.bool false,.bool false]) 3 rfl Try.underlying136 iP rfl (by decide) (by omega) (.slice Ai m ci) ps x [.int .u8 x.f0,.bool x.f1,.bool x.f2] (fun k_ => (k_ ≠ gb ∧ k_ ≠ g) ∧ k_ ≠ gx) (fun _ => False) rfl rfl ?aP (fun _ hk => hk.elim) ?aF ?aO ?aB ?aS ?aL ?_
  (case aP => exact k135_mkM _ _ _ x)
  (case aB => exact bg_)
  (case aF => exact (fun k_ hk => ⟨⟨fun e_ => by have h_:=blk_lt BK.out;omega,fun e_ => by have h_:=HGL.out;omega⟩,fun e_ => by have h_:=blk_lt BX.out;omega⟩))
  (case aO => exact HI.out)
  (case aS => exact (below_size bg_))
  (case aL => have h_:=HL.out;omega)
  intro v15 w15 ho hb hg hat
  have hnb : some gb ≠ (.slice Ai m ci : Value).ownBlock:=Kd.R_away HI.out (fun _ hk => hk.1.1)
  have hng : some g ≠ (.slice Ai m ci : Value).ownBlock:=Kd.R_away HI.out (fun _ hk => hk.1.2)
  have hnx : some gx ≠ (.slice Ai m ci : Value).ownBlock:=Kd.R_away HI.out (fun _ hk => hk.2)
  have n0_:=am_ (blk_grown (g:=gb) BK.out hg hnb)
  have n1_:=am_ (blk_grown (g:=gx) BX.out hg hnx)
  have n2_:=am_ hb
  have n3_:=am_ ho
  have n4_:=am_ (show Kd.R kcut 136 w15 w0.heap.size (fun k => k = g) (.slice (some ⟨g,0,none⟩) n c) xs from Kd.R_move HO.out (fun k_ hk => by rw [show k_ = g from hk];exact hg.block g HGL.out hng))
  have n5_:=am_ ((World.cell?_of_block (a:=⟨g,J.toNat,none⟩) (hg.block g HGL.out hng)).trans HS1.out)
  have n6_:=am_ (Nat.lt_of_lt_of_le HGL.out hg.size)
  have n7_:=am_ (show ∀ k,k < w.heap.size → some k ≠ (.slice Ai m ci : Value).ownBlock → w15.heap[k]? = w.heap[k]? from fun k hk hn => (hg.block k (Nat.lt_of_lt_of_le hk HK.out.size) hn).trans (HK.out.block k hk))
  have n8_:=am_ (show (v15 : Value).ownBlock = (.slice Ai m ci : Value).ownBlock ∨ ∃ b,(v15 : Value).ownBlock = some b ∧ w.heap.size ≤ b from hat.imp id (fun h_ => h_.elim fun b h2_ => ⟨b,h2_.1,Nat.le_trans HK.out.size h2_.2⟩))
  clear BK BX HB HI HO HS1 HGL HK hnb hng hnx ho hb hg hat
  have BK:=n0_
  have BX:=n1_
  have HB:=n2_
  have HI:=n3_
  have HO:=n4_
  have HS1:=n5_
  have HGL:=n6_
  have HKP:=n7_
  have HOB:=n8_
  clear n0_ n1_ n2_ n3_ n4_ n5_ n6_ n7_ n8_
  obtain ⟨Aj,cj,ej⟩:=Kd.R_slice HI.out
  subst ej
  obtain ⟨cl_,hcl_⟩:=Kd.R_typed HO.out g rfl
  have hfr:=blk_frozen hcl_ J.toNat
  refine hK.out _ _ ⟨(bc1_0 BK),HS1.out,(bc3_0 BX),(bc3_1 BX),(bc3_2 BX)⟩ (fun hHeld => ?_)
  clear hK K
  refine norm_ (a':=?_) ?_ ?_
  rotate_left
  · show Act.put _ (some 15) _ = _
    simp only [Act.put,List.setIfInBounds_toArray,List.set_cons_zero,List.set_cons_succ,i64_w,i32_w]
    rfl
  refine pz_ 13 16 16383 ?_
  refine last_ (i:=14) (N:=none) (bz 15 32767) rfl rfl (one_of HT_.out (by kernel_rfl)) (by decide) (fun K hK => ?_)
  refine skip_ (w1:=?_) (by rfl) rfl ?_ ?_
  rotate_left
  · go_simp
    rfl
  refine hK.out _ _ ?_
  clear hK K
  refine done_ (done_of HT_.out (by kernel_rfl)) ?_
  have hgb : w0.heap.size ≤ g:=((Kd.R_bound HO.out).1 g rfl).2.1
  have hne : some gb ≠ (.slice (some ⟨g,0,none⟩) n c : Value).ownBlock:=Kd.R_ne HO.out BK.out (by decide)
  have hl2 : (ps ++ [x]).length = m + 1:=by rw [List.length_append,List.length_singleton,HM.out]
  have hl3:=HM.out
  subst hl3
  refine bodyPost_end (results_none rfl _ _ _) rfl ?_
  refine ⟨⟨_,rfl⟩,below_set HB.out hgb,blk_far BK.out (fun e_ => hne (by rw [e_];rfl)) _,Aj,cj,?_,?_,?_,?_⟩
  · exact Kd.R_putn (enc:=fun x : Option Addr × Nat × Nat => .slice x.1 x.2.1 x.2.2) (h1:=fun _ => rfl) HO.out J (Aj,ps.length + 1,cj)
  · have h9:=Kd.R_mono (Kd.R_far (p:=⟨g,J.toNat,none⟩) HI.out (fun _ hk => hk.1.2) (.slice Aj (ps.length + 1) cj)) (fun _ hk => hk.1)
    rw [hl2] at h9
    exact h9
  · exact fun k_ hk hk2 hk3 => (Below.heap_setCell _ ⟨g,J.toNat,none⟩ _ k_ hk2).trans (HKP.out k_ hk hk3)
  · have h9:=HOB.out
    rw [hl2] at h9
    exact h9
theorem cut_tight {e base g n c : Nat} {w : World} {ok : Nat → Prop} {xs : List (Option Addr × Nat × Nat)} (h : Kd.R kcut e w base ok (.slice (some ⟨g,0,none⟩) n c) xs) : Kd.R kcut e w base (fun k => k = g) (.slice (some ⟨g,0,none⟩) n c) xs :=
  Kd.R_of_own (enc:=fun x : Option Addr × Nat × Nat => .slice x.1 x.2.1 x.2.2) (h1:=fun _ => rfl) (Kd.own_of_R (enc:=fun x : Option Addr × Nat × Nat => .slice x.1 x.2.1 x.2.2) (h1:=fun _ => rfl) h) (fun k hk => by simp [Value.ownBlock] at hk;exact hk.symm)
theorem cut_cell {e base g n c j : Nat} {w : World} {ok : Nat → Prop} {xs : List (Option Addr × Nat × Nat)} {x : Option Addr × Nat × Nat} (h : Kd.R kcut e w base ok (.slice (some ⟨g,0,none⟩) n c) xs) (hx : xs[j]? = some x) : w.cell? ⟨g,j,none⟩ = some (.slice x.1 x.2.1 x.2.2):=by
  obtain ⟨h1,h2,h3⟩:=Kd.R_reads' h
  have h4:=Kd.reads_of_C (enc:=fun x : Option Addr × Nat × Nat => .slice x.1 x.2.1 x.2.2) (d:=(none,0,0)) (h1:=fun _ => rfl) h3
  obtain ⟨hj,hx⟩:=List.getElem?_eq_some_iff.1 hx
  obtain ⟨ad,e1,h5⟩:=h4.2.2 (by omega)
  cases e1
  have h6:=h5 j hj
  rw [List.getD_eq_getElem?_getD,List.getElem?_eq_getElem hj,Option.getD_some,hx,add_plain] at h6
  exact h6
theorem cut_cell3 {e base g n c j : Nat} {w : World} {ok : Nat → Prop} {xs : List (Option Addr × Nat × Nat)} {A : Option Addr} {m ci : Nat} (h : Kd.R kcut e w base ok (.slice (some ⟨g,0,none⟩) n c) xs) (hx : xs[j]? = some (A,m,ci)) : w.cell? ⟨g,j,none⟩ = some (.slice A m ci):=cut_cell h hx
theorem four_at : ∀ b : Fin 256,decide (Lib.indexByte [42,63,124,92] (UInt8.ofNat b.val) < 0) = !(okE ((b.val : Nat) : Int)):=by decide +kernel
theorem four_of {d : Int} (h0 : 0 ≤ d) (h1 : d ≤ 255) : decide (Lib.indexByte [42,63,124,92] d.toNat.toUInt8 < 0) = !(okE d):=by
  have h:=four_at ⟨d.toNat,by omega⟩
  simp only [Int.toNat_of_nonneg h0] at h
  exact h
def altP (c : Int) : S135:=if c = -1 then ⟨0,false,true⟩ else if c = -2 then ⟨0,true,false⟩ else ⟨c,false,false⟩
theorem altP_bt (s : ByteArray) (i : Int) : altP (bt s i) = ⟨bt s i,false,false⟩:=by have:=bt_range s i;unfold altP;rw [if_neg (by omega),if_neg (by omega)]
theorem rows_put {α : Type} {d : Kd α} {e base g gb m ci cj j : Nat} {Ai Aj : Option Addr} {w w1 : World} {xs : List (Option Addr × Nat × Nat)} {o : List (List α)} (h : Rows d e w base (fun k => k ≠ gb ∧ k ≠ g ∧ some k ≠ (.slice Ai m ci : Value).ownBlock) xs o) (hj : o.length ≤ j) (hk : ∀ k,k < w.heap.size → k ≠ g → some k ≠ (.slice Ai m ci : Value).ownBlock → w1.heap[k]? = w.heap[k]?) (hb : (.slice Aj (m + 1) cj : Value).ownBlock = (.slice Ai m ci : Value).ownBlock ∨ ∃ b,(.slice Aj (m + 1) cj : Value).ownBlock = some b ∧ w.heap.size ≤ b) : Rows d e w1 base (fun k => k ≠ gb ∧ k ≠ g ∧ some k ≠ (.slice Aj (m + 1) cj : Value).ownBlock) (xs.set j (Aj,m + 1,cj)) o:=by
  refine rows_step h (fun k h1 h2 => hk k h2 h1.2.1 h1.2.2) (fun k h1 h2 => ⟨h1.1,h1.2.1,?_⟩) (fun i hi => List.getElem?_set_ne (by omega))
  rcases hb with hb|⟨b,hb,hle⟩
  · rw [hb];exact h1.2.2
  · rw [hb];intro he;injection he with he;omega
theorem rows_bar {α : Type} {d : Kd α} {e base g gb m ci g2 n2 c2 n c : Nat} {Ai : Option Addr} {w w1 : World} {xs ys : List (Option Addr × Nat × Nat)} {o : List (List α)} {l : List α} (hE : d.E = []) (h : Rows d e w base (fun k => k ≠ gb ∧ k ≠ g ∧ some k ≠ (.slice Ai m ci : Value).ownBlock) xs o) (hx : xs[o.length]? = some (Ai,m,ci)) (hm : l.length = m) (hI : Kd.R d e w base (fun k => k ≠ gb ∧ k ≠ g) (.slice Ai m ci) l) (hl : o.length + 1 = xs.length)
    (hg : w.grownBy w1 (.slice (some ⟨g,0,none⟩) n c : Value).ownBlock) (hat : (.slice (some ⟨g2,0,none⟩) n2 c2 : Value).ownBlock = (.slice (some ⟨g,0,none⟩) n c : Value).ownBlock ∨ ∃ b,(.slice (some ⟨g2,0,none⟩) n2 c2 : Value).ownBlock = some b ∧ w.heap.size ≤ b) : Rows d e w1 base (fun k => k ≠ gb ∧ k ≠ g2) (xs ++ ys) (o ++ [l]):=by
  have h1 : Rows d e w base (fun k => k ≠ gb ∧ k ≠ g) xs (o ++ [l]):=rows_snoc (ok:=fun k => k ≠ gb ∧ k ≠ g) hE (rows_step h (fun _ _ _ => rfl) (fun k hk _ => ⟨⟨hk.1,hk.2.1⟩,hk.2.2⟩) (fun _ _ => rfl)) hx hm hI
  refine rows_step h1 (fun k hk hlt => hg.block k hlt (fun he => hk.2 (by simpa [Value.ownBlock] using he))) (fun k hk hlt => ⟨hk.1,?_⟩) (fun j hj => List.getElem?_append_left (by simp at hj;omega))
  rcases hat with hb|⟨b,hb,hle⟩
  · have : g2 = g:=by simpa [Value.ownBlock] using hb
    rw [this];exact hk.2
  · have : g2 = b:=by simpa [Value.ownBlock] using hb
    omega
def impl_alternatives.f (k : Nat) (a0 : ByteArray) : Option (List (List S135) × Bool):=(impl_printed.f k a0 100).bind fun t => if t = true then (if a0.size ≤ 900 then some ((altA a0 0 [] []).1.map (List.map altP),(altA a0 0 [] []).2) else none) else some ([],false)
theorem impl_alternatives.mono : ∀ a0 k,LeO (impl_alternatives.f k a0) (impl_alternatives.f (k + 1) a0):=by
  intro a0 k
  unfold impl_alternatives.f
  exact LeO.bind (impl_printed.mono _ _ _) (fun _ => LeO.refl _)
theorem impl_alternatives.calls (k : Nat) (a0 : ByteArray) (r1 : List (List S135)) (r2 : Bool) (w : World) (h : impl_alternatives.f k a0 = some (r1,r2)) :
    Calls Try.prog 118 #[.string a0] w fun e w' => ∃ v0_ : Value,e = .returned (.tuple #[v0_,.bool r2]) ∧ Kd.S (Kd.slice 135 k135) 136 w' w.heap.size (fun _ => True) v0_ r1 ∧ Below w.heap.size w w':=by
  have iS : (Try.prog.info? 136).map (fun i => (i.zero,i.size,i.bytes)) = some (some (.slice none 0 0),1,24):=by kernel_rfl
  have hu:=Try.underlying135
  have HB:=am_ (Below.refl w.heap.size w)
  unfold impl_alternatives.f at h
  obtain ⟨t,ht,h⟩:=Option.bind_eq_some_iff.mp h
  have HT:=am_ ht
  clear ht
  cases t with
  | false =>
    rw [if_neg (by decide)] at h
    simp only [Option.some.injEq,Prod.mk.injEq] at h
    obtain ⟨rfl,rfl⟩:=h
    go_enter Try.func118,Try.ntmps118
    go_wp2_with (first|(go_at_call 95;refine (impl_printed.calls k a0 100 false _ HT.out).mono ?_;rintro e w' ⟨rfl,⟨nd,rfl⟩⟩))
    go_ret2
    exact ⟨_,rf_,ni_,bl_⟩
  | true =>
    rw [if_pos rfl] at h
    by_cases hz : a0.size ≤ 900
    · rw [if_pos hz] at h
      have HZ:=am_ hz
      obtain ⟨qs,hq⟩ : ∃ qs,(altA a0 0 [] []).1 = qs:=⟨_,rfl⟩
      simp only [Option.some.injEq,Prod.mk.injEq] at h
      have HR:=am_ (show altA a0 0 [] [] = (qs,r2) from Prod.ext hq h.2)
      have HQ:=am_ (show qs.map (List.map altP) = r1 from by rw [← hq];exact h.1)
      clear h hz hq
      go_enter Try.func118,Try.ntmps118
      go_wp2_with (first|(go_at_call 95;refine (impl_printed.calls k a0 100 true _ HT.out).mono ?_;rintro e w' ⟨rfl,⟨nd,rfl⟩⟩)|((with_reducible refine gate_dst (N:=11) rfl ?_);refine Kd.R_lit kcut _ 136 ?hg (N:=11) ?hd (xs:=[(none,0,0)]) (inner:=[.slice none 0 0]) (ok:=fun _ => True) (okp:=fun _ => True) ?hr ?hp (fun _ hk => hk) trivial (Below.refl _ _) (Nat.le_refl _) (by simp) ?_;(case hd => rfl);(case hg => rfl);(case hr => first|(go_simp;done)|(go_simp;rfl));(case hp => exact (Reps.one (show Kd.M kcut _ _ _ (none,0,0) [.slice none 0 0] from rfl) (Reps.none _ _)));intro v11 w11 ho hb hg_ hnew_;obtain ⟨g0,cp0,ev0,hz1_,hz2_,hz3_⟩:=Kd.R_form ho (by simp);subst ev0;have n0_:=am_ (cut_tight (Kd.R_lower ho (below_size bl_)));have n1_:=am_ (below_step bl_ hb);clear HB;have HO:=n0_;have HB:=n1_;clear n0_ n1_ ho hb hg_ hnew_ hz1_ hz2_ hz3_)|((with_reducible refine gate_dst (N:=4) rfl ?_);refine bx_ 4 #[.slice none 0 0] 123 ?_;intro gb hg w12 hbox hb;have n0_:=am_ (Kd.R_below HO.out hb);have n1_:=am_ (below_step bl_ hb);have GE:=am_ (gs_ hg : w.heap.size ≤ gb);have BK:=am_ hbox;clear HO HB;have HO:=n0_;have HB:=n1_;clear n0_ n1_ hb hbox hg;have hcz1_0:=bc1_0 BK;have hfz1_0:=bf_ BK 0))
      have hne0 : g0 ≠ gb:=fun e_ => Kd.R_ne HO.out BK.out (by decide) (by rw [e_];rfl)
      have HNE:=am_ hne0
      clear hne0 hcz1_0 hfz1_0
      go_loopg [6] a0.size (fun gg v6 w' => ∃ (g n c : Nat) (xs : List (Option Addr × Nat × Nat)) (Ai : Option Addr) (m ci : Nat) (o : List (List Int)) (nw : List Int) (i : Nat),v6 = .int .i64 (i : Int) ∧ Aside0 (n = xs.length ∧ 1 ≤ n ∧ n ≤ i + 1 ∧ m ≤ i ∧ nw.length = m ∧ i ≤ a0.size ∧ a0.size ≤ 900 ∧ xs[n - 1]? = some (Ai,m,ci) ∧ a0.size - i ≤ gg ∧ o.length + 1 = n) ∧ Aside0 (altA a0 i o nw = (qs,r2)) ∧ Aside0 (w'.heap[gb]? = some (.cells #[.slice (some ⟨g,0,none⟩) n c] 123 (0,0))) ∧ Aside0 (g ≠ gb) ∧ Aside0 (Kd.R kcut 136 w' w.heap.size (fun k => k = g) (.slice (some ⟨g,0,none⟩) n c) xs) ∧ Aside0 (Kd.R k135 135 w' w.heap.size (fun k => k ≠ gb ∧ k ≠ g) (.slice Ai m ci) (nw.map altP)) ∧ Aside0 (Rows k135 135 w' w.heap.size (fun k => k ≠ gb ∧ k ≠ g ∧ some k ≠ (.slice Ai m ci : Value).ownBlock) xs (o.map (List.map altP))) ∧ Aside0 (Below w.heap.size w w'))
      case atStart => exact ⟨g0,1,cp0,[(none,0,0)],none,0,0,[],[],0,rs_,⟨by have:=HZ.out;simp;omega⟩,HR,⟨blk_put (cs:=#[.slice none 0 0]) BK.out 0 _ rfl⟩,HNE,⟨Kd.R_far (p:=⟨gb,0,none⟩) HO.out (fun k_ hk => by rw [show k_ = g0 from hk];exact HNE.out) _⟩,⟨Kd.R_nil _ _ _ _ _⟩,⟨rows_nil _ _ _ _ _ _⟩,⟨below_set HB.out GE.out⟩⟩
      case round =>
        obtain ⟨g,n,c,xs,Ai,m,ci,o,nw,i,rfl,HL,HA,BK,HNE,HO,HI,HS,HB⟩:=hrel
        obtain ⟨I,hI⟩ : ∃ I : Int,(i : Int) = I:=⟨_,rfl⟩
        rw [hI]
        have HIq:=am_ hI
        have hcz2_0:=bc1_0 BK
        have hfz2_0:=bf_ BK 0
        by_cases c4 : I < (a0.size : Int)
        · have c4b0 : decide (I < (a0.size : Int)) = true:=decide_eq_true c4
          have hI0 : 0 ≤ I:=by omega
          have hx6:=bt_at a0 I
          have p6:=eq_true hI0
          have q6:=eq_true c4
          have HIL:=am_ c4
          clear c4 hI0 hI
          by_cases d124 : bt a0 I = 124
          · have c124b0 : (bt a0 I == 124) = true:=beq_iff_eq.mpr d124
            have HN:=am_ d124
            clear d124
            have HS0:=am_ (show xs[(o.map (List.map altP)).length]? = some (Ai,m,ci) from by have h_:=HL.out.2.2.2.2.2.2.2.1;have h2_:=HL.out;rw [List.length_map,show o.length = n - 1 from by omega];exact h_)
            go_wp2_with (first|((with_reducible refine gate_builtin (b:=.append) (xs:=#[.tmp 29,.tmp 30]) rfl ?_);at_builtin;refine Kd.R_append kcut (w0:=w) w.heap.size rfl (.tmp 29) (.tmp 30) 123 136 (.slice none 0 0) 24 rfl Try.underlying123 iS rfl (by decide) (by omega) (.slice (some ⟨g,0,none⟩) n c) xs (none,0,0) [.slice none 0 0] (fun k_ => k_ ≠ gb) (fun _ => False) rfl rfl ?aP (fun _ hk => hk.elim) ?aF ?aO ?aB ?aS ?aL ?_;(case aP => exact rfl);(case aB => exact bl_);(case aF => exact (fun k_ hk e_ => by have h_:=blk_lt BK.out;omega));(case aO => exact Kd.R_mono (show Kd.R kcut 136 _ w.heap.size (fun k => k = g) (.slice (some ⟨g,0,none⟩) n c) xs from ro_ HO) (fun k_ hk => by rw [show k_ = g from hk];exact HNE.out));(case aS => exact (below_size bl_));(case aL => have:=HL.out;omega);intro v31 w31 ho hb hg hat;obtain ⟨g2,cp2,ev2,hz1_,hz2_,hz3_⟩:=Kd.R_form ho (by simp);subst ev2;have n0_:=am_ (show g2 ≠ gb from ho.1 g2 rfl);have n1_:=am_ (cut_tight ho);have n2_:=am_ hb;have n3_:=am_ (blk_grown (g:=gb) (o:=.cells #[.slice (some ⟨g,0,none⟩) n c] 123 (0,0)) (vk_ BK) hg (fun e_ => HNE.out (by simp [Value.ownBlock] at e_;exact e_.symm)));have n4_:=am_ (rows_bar (ys:=[(none,0,0)]) (l:=(nw.map altP)) rfl (show Rows k135 135 _ w.heap.size (fun k => k ≠ gb ∧ k ≠ g ∧ some k ≠ (.slice Ai m ci : Value).ownBlock) xs (o.map (List.map altP)) from rq_ HS) HS0.out (by rw [List.length_map];exact HL.out.2.2.2.2.1) (show Kd.R k135 135 _ w.heap.size (fun k => k ≠ gb ∧ k ≠ g) (.slice Ai m ci) (nw.map altP) from ro_ HI) (by have:=HL.out;rw [List.length_map];omega) hg hat);clear HO HB BK HNE HI HS;have HNE:=n0_;have HO:=n1_;have HB:=n2_;have BK:=n3_;have HS:=n4_;clear n0_ n1_ n2_ n3_ n4_ ho hb hg hat hz1_ hz2_ hz3_;have hcz3_0:=bc1_0 BK;have hfz3_0:=bf_ BK 0))
            go_roundg (a0.size - (i + 1))
            case measure => have h1_:=HIq.out;have h2_:=HL.out;have h3_:=HIL.out;omega
            case rel => exact ⟨g2,xs.length + 1,cp2,xs ++ [(none,0,0)],none,0,0,o ++ [nw],[],i + 1,(by first|rfl|(have h1_:=HIq.out;have h2_:=HL.out;have h3_:=HIL.out;congr 1;unfold wrap64;omega)),⟨by have h1_:=HIq.out;have h2_:=HL.out;have h3_:=HIL.out;refine ⟨by simp,by omega,by omega,by omega,rfl,by omega,by omega,?_,by omega,by simp;omega⟩;simp⟩,⟨(altA_bar (by have h1_:=HIq.out;have h3_:=HIL.out;omega) (by rw [HIq.out];exact HN.out)).symm.trans HA.out⟩,⟨blk_put (cs:=#[.slice (some ⟨g,0,none⟩) n c]) BK.out 0 _ rfl⟩,HNE,⟨by have h8:=HO.out;rw [List.length_append,List.length_singleton] at h8;exact Kd.R_far (p:=⟨gb,0,none⟩) h8 (fun k_ hk => by rw [show k_ = g2 from hk];exact HNE.out) _⟩,⟨Kd.R_nil _ _ _ _ _⟩,⟨by rw [List.map_append,List.map_singleton];exact rows_step HS.out (fun k_ hk _ => Below.heap_setCell _ ⟨gb,0,none⟩ _ k_ hk.1) (fun k_ hk _ => ⟨hk.1,hk.2,by simp [Value.ownBlock]⟩) (fun _ _ => rfl)⟩,⟨below_set HB.out GE.out⟩⟩
          · have c124b0 : (bt a0 I == 124) = false:=beq_eq_false_iff_ne.mpr d124
            by_cases d42 : bt a0 I = 42
            · have c42b0 : (bt a0 I == 42) = true:=beq_iff_eq.mpr d42
              have HN:=am_ d42
              clear d42
              have HS0:=am_ (show xs[((n : Int) - 1).toNat]? = some (Ai,m,ci) from by have h_:=HL.out.2.2.2.2.2.2.2.1;have h2_:=HL.out.2.1;rw [show ((n : Int) - 1).toNat = n - 1 from by omega];exact h_)
              go_wp2_with (first|(go_at_call 128;refine (impl_put.calls (⟨0,false,true⟩ : S135) gb g n c m ((n : Int) - 1) xs Ai ci (nw.map altP) w _ HB.out rfl (by have:=HL.out;omega) (by have:=HL.out;omega) (by rw [List.length_map];exact HL.out.2.2.2.2.1) (by have:=HL.out;omega) BK.out (cut_cell3 HO.out HS0.out) HO.out HI.out).mono ?_;rintro e w20 ⟨⟨v20,rfl⟩,hb,hbk,Aj,cj,hO,hI2,hk2,ho2⟩;have n0_:=am_ hb;have n1_:=am_ hbk;have n2_:=am_ hO;have n3_:=am_ hI2;have n4_:=am_ (rows_put (j:=((n : Int) - 1).toNat) HS.out (by have:=HL.out;rw [List.length_map];omega) hk2 ho2);clear HB BK HO HI HS;have HB:=n0_;have BK:=n1_;have HO:=n2_;have HI:=n3_;have HS:=n4_;clear n0_ n1_ n2_ n3_ n4_ hb hbk hO hI2 hk2 ho2))
              go_roundg (a0.size - (i + 1))
              case measure => have h1_:=HIq.out;have h2_:=HL.out;have h3_:=HIL.out;omega
              case rel => exact ⟨g,n,c,xs.set ((n : Int) - 1).toNat (Aj,m + 1,cj),Aj,m + 1,cj,o,nw ++ [-1],i + 1,(by first|rfl|(have h1_:=HIq.out;have h2_:=HL.out;have h3_:=HIL.out;congr 1;unfold wrap64;omega)),⟨by have h1_:=HIq.out;have h2_:=HL.out;have h3_:=HIL.out;refine ⟨by rw [List.length_set];omega,by omega,by omega,by omega,by rw [List.length_append,List.length_singleton];omega,by omega,by omega,?_,by omega,by omega⟩;rw [show ((n : Int) - 1).toNat = n - 1 from by omega];exact List.getElem?_set_self (by omega)⟩,⟨(altA_star (by have h1_:=HIq.out;have h3_:=HIL.out;omega) (by rw [HIq.out];exact HN.out)).symm.trans HA.out⟩,BK,HNE,HO,⟨by have h_:=HI.out;rw [← show altP (-1) = (⟨0,false,true⟩ : S135) from rfl,← List.map_singleton,← List.map_append] at h_;exact h_⟩,HS,HB⟩
            · have c42b0 : (bt a0 I == 42) = false:=beq_eq_false_iff_ne.mpr d42
              by_cases d63 : bt a0 I = 63
              · have c63b0 : (bt a0 I == 63) = true:=beq_iff_eq.mpr d63
                have HN:=am_ d63
                clear d63
                have HS0:=am_ (show xs[((n : Int) - 1).toNat]? = some (Ai,m,ci) from by have h_:=HL.out.2.2.2.2.2.2.2.1;have h2_:=HL.out.2.1;rw [show ((n : Int) - 1).toNat = n - 1 from by omega];exact h_)
                go_wp2_with (first|(go_at_call 128;refine (impl_put.calls (⟨0,true,false⟩ : S135) gb g n c m ((n : Int) - 1) xs Ai ci (nw.map altP) w _ HB.out rfl (by have:=HL.out;omega) (by have:=HL.out;omega) (by rw [List.length_map];exact HL.out.2.2.2.2.1) (by have:=HL.out;omega) BK.out (cut_cell3 HO.out HS0.out) HO.out HI.out).mono ?_;rintro e w20 ⟨⟨v20,rfl⟩,hb,hbk,Aj,cj,hO,hI2,hk2,ho2⟩;have n0_:=am_ hb;have n1_:=am_ hbk;have n2_:=am_ hO;have n3_:=am_ hI2;have n4_:=am_ (rows_put (j:=((n : Int) - 1).toNat) HS.out (by have:=HL.out;rw [List.length_map];omega) hk2 ho2);clear HB BK HO HI HS;have HB:=n0_;have BK:=n1_;have HO:=n2_;have HI:=n3_;have HS:=n4_;clear n0_ n1_ n2_ n3_ n4_ hb hbk hO hI2 hk2 ho2))
                go_roundg (a0.size - (i + 1))
                case measure => have h1_:=HIq.out;have h2_:=HL.out;have h3_:=HIL.out;omega
                case rel => exact ⟨g,n,c,xs.set ((n : Int) - 1).toNat (Aj,m + 1,cj),Aj,m + 1,cj,o,nw ++ [-2],i + 1,(by first|rfl|(have h1_:=HIq.out;have h2_:=HL.out;have h3_:=HIL.out;congr 1;unfold wrap64;omega)),⟨by have h1_:=HIq.out;have h2_:=HL.out;have h3_:=HIL.out;refine ⟨by rw [List.length_set];omega,by omega,by omega,by omega,by rw [List.length_append,List.length_singleton];omega,by omega,by omega,?_,by omega,by omega⟩;rw [show ((n : Int) - 1).toNat = n - 1 from by omega];exact List.getElem?_set_self (by omega)⟩,⟨(altA_any (by have h1_:=HIq.out;have h3_:=HIL.out;omega) (by rw [HIq.out];exact HN.out)).symm.trans HA.out⟩,BK,HNE,HO,⟨by have h_:=HI.out;rw [← show altP (-2) = (⟨0,true,false⟩ : S135) from rfl,← List.map_singleton,← List.map_append] at h_;exact h_⟩,HS,HB⟩
              · have c63b0 : (bt a0 I == 63) = false:=beq_eq_false_iff_ne.mpr d63
                by_cases d92 : bt a0 I = 92
                · have c92b0 : (bt a0 I == 92) = true:=beq_iff_eq.mpr d92
                  have H92:=am_ (show bt a0 (i : Int) = 92 by rw [HIq.out];exact d92)
                  obtain ⟨J,hJ⟩ : ∃ J : Int,I + 1 = J:=⟨_,rfl⟩
                  have hJw : IntKind.i64.wrap (I + 1) = J:=by have h1_:=HIq.out;have h2_:=HL.out;rw [IntKind.wrap_i64];omega
                  have hJv : wrap64 (I + 1) = J:=by have h1_:=HIq.out;have h2_:=HL.out;unfold wrap64;omega
                  have HJ:=am_ (show ((i + 1 : Nat) : Int) = J by have h1_:=HIq.out;omega)
                  clear d92 d124 d42 d63 hJ
                  by_cases e1 : J = (a0.size : Int)
                  · have e1b0 : (J == (a0.size : Int)) = true:=beq_iff_eq.mpr e1
                    obtain ⟨rfl,rfl⟩ : qs = [] ∧ r2 = false:=by have h:=(altA_cut (by have h1_:=HIq.out;have h3_:=HIL.out;omega) H92.out (by have h1_:=HJ.out;omega)).symm.trans HA.out;simp only [Prod.mk.injEq] at h;exact ⟨h.1.symm,h.2.symm⟩
                    obtain rfl : r1 = []:=HQ.out.symm
                    clear e1
                    go_wp2
                    go_ret2
                    exact ⟨_,rf_,ni_,bl_⟩
                  · have e1b0 : (J == (a0.size : Int)) = false:=beq_eq_false_iff_ne.mpr e1
                    have j1 : J < (a0.size : Int):=by have h1_:=HJ.out;have h2_:=HIL.out;have h3_:=HIq.out;omega
                    have j0 : 0 ≤ J:=by have h1_:=HJ.out;omega
                    have HE:=am_ ((altA_esc (s:=a0) (i:=i) (by have h1_:=HJ.out;omega) H92.out).symm.trans HA.out)
                    have HJL:=am_ j1
                    have hx7:=bt_at a0 J
                    have p7:=eq_true j0
                    have q7:=eq_true j1
                    have hrg:=bt_range a0 J
                    have h4q:=four_of hrg.1 hrg.2
                    obtain ⟨Z,hZ⟩ : ∃ Z : Int,(Lib.indexByte (⟨#[42,63,124,92]⟩ : ByteArray).data.toList (bt a0 J).toNat.toUInt8) = Z:=⟨_,rfl⟩
                    have HZZ:=am_ (show strings_IndexByte.f (⟨#[42,63,124,92]⟩ : ByteArray) (bt a0 J) = some Z from by unfold strings_IndexByte.f;rw [← hZ])
                    have h4z : decide (Z < 0) = !(okE (bt a0 J)):=by rw [← hZ];exact h4q
                    clear j0 j1 e1 hrg h4q hZ
                    cases hk : okE (bt a0 J) with
                    | false =>
                      rw [hk] at h4z
                      have z0 : decide (Z < 0) = true:=h4z
                      obtain ⟨rfl,rfl⟩ : qs = [] ∧ r2 = false:=by have h:=HE.out;rw [HJ.out,hk,if_neg (by decide)] at h;simp only [Prod.mk.injEq] at h;exact ⟨h.1.symm,h.2.symm⟩
                      obtain rfl : r1 = []:=HQ.out.symm
                      clear h4z hk
                      go_wp2_with (first|(go_at_call 129;refine (strings_IndexByte.calls (⟨#[42,63,124,92]⟩ : ByteArray) (bt a0 J) Z _ HZZ.out).mono ?_;rintro e w' ⟨rfl,⟨nd,rfl⟩⟩;replace BK:=am_ (blk_drewN BK.out nd);replace HO:=am_ (Kd.R_drewN HO.out nd);replace HI:=am_ (Kd.R_drewN HI.out nd);replace HS:=am_ (rows_drewN HS.out nd);replace HB:=am_ (pw_below_drewN HB.out nd)))
                      go_ret2
                      exact ⟨_,rf_,ni_,bl_⟩
                    | true =>
                      rw [hk] at h4z
                      have z0 : decide (Z < 0) = false:=h4z
                      have HK:=am_ hk
                      clear h4z hk
                      have HS0:=am_ (show xs[((n : Int) - 1).toNat]? = some (Ai,m,ci) from by have h_:=HL.out.2.2.2.2.2.2.2.1;have h2_:=HL.out.2.1;rw [show ((n : Int) - 1).toNat = n - 1 from by omega];exact h_)
                      go_wp2_with (first|(go_at_call 129;refine (strings_IndexByte.calls (⟨#[42,63,124,92]⟩ : ByteArray) (bt a0 J) Z _ HZZ.out).mono ?_;rintro e w' ⟨rfl,⟨nd,rfl⟩⟩;replace BK:=am_ (blk_drewN BK.out nd);replace HO:=am_ (Kd.R_drewN HO.out nd);replace HI:=am_ (Kd.R_drewN HI.out nd);replace HS:=am_ (rows_drewN HS.out nd);replace HB:=am_ (pw_below_drewN HB.out nd))|(go_at_call 128;refine (impl_put.calls (⟨bt a0 J,false,false⟩ : S135) gb g n c m ((n : Int) - 1) xs Ai ci (nw.map altP) w _ HB.out rfl (by have:=HL.out;omega) (by have:=HL.out;omega) (by rw [List.length_map];exact HL.out.2.2.2.2.1) (by have:=HL.out;omega) BK.out (cut_cell3 HO.out HS0.out) HO.out HI.out).mono ?_;rintro e w20 ⟨⟨v20,rfl⟩,hb,hbk,Aj,cj,hO,hI2,hk2,ho2⟩;have n0_:=am_ hb;have n1_:=am_ hbk;have n2_:=am_ hO;have n3_:=am_ hI2;have n4_:=am_ (rows_put (j:=((n : Int) - 1).toNat) HS.out (by have:=HL.out;rw [List.length_map];omega) hk2 ho2);clear HB BK HO HI HS;have HB:=n0_;have BK:=n1_;have HO:=n2_;have HI:=n3_;have HS:=n4_;clear n0_ n1_ n2_ n3_ n4_ hb hbk hO hI2 hk2 ho2))
                      go_roundg (a0.size - (i + 2))
                      case measure => have h1_:=HIq.out;have h2_:=HL.out;have h3_:=HIL.out;omega
                      case rel => exact ⟨g,n,c,xs.set ((n : Int) - 1).toNat (Aj,m + 1,cj),Aj,m + 1,cj,o,nw ++ [bt a0 J],i + 2,(by first|rfl|(have h1_:=HIq.out;have h2_:=HL.out;have h3_:=HIL.out;have h4_:=HJ.out;have h5_:=HJL.out;congr 1;unfold wrap64;omega)),⟨by have h1_:=HIq.out;have h2_:=HL.out;have h3_:=HIL.out;have h4_:=HJ.out;have h5_:=HJL.out;refine ⟨by rw [List.length_set];omega,by omega,by omega,by omega,by rw [List.length_append,List.length_singleton];omega,by omega,by omega,?_,by omega,by omega⟩;rw [show ((n : Int) - 1).toNat = n - 1 from by omega];exact List.getElem?_set_self (by omega)⟩,⟨by have h:=HE.out;rw [HJ.out,HK.out,if_pos rfl] at h;exact h⟩,BK,HNE,HO,⟨by have h_:=HI.out;rw [← show altP (bt a0 J) = (⟨bt a0 J,false,false⟩ : S135) from altP_bt _ _,← List.map_singleton,← List.map_append] at h_;exact h_⟩,HS,HB⟩
                · have c92b0 : (bt a0 I == 92) = false:=beq_eq_false_iff_ne.mpr d92
                  have HN:=am_ (And.intro d124 (And.intro d42 (And.intro d63 d92)))
                  clear d92 d124 d42 d63
                  have HS0:=am_ (show xs[((n : Int) - 1).toNat]? = some (Ai,m,ci) from by have h_:=HL.out.2.2.2.2.2.2.2.1;have h2_:=HL.out.2.1;rw [show ((n : Int) - 1).toNat = n - 1 from by omega];exact h_)
                  go_wp2_with (first|(go_at_call 128;refine (impl_put.calls (⟨bt a0 I,false,false⟩ : S135) gb g n c m ((n : Int) - 1) xs Ai ci (nw.map altP) w _ HB.out rfl (by have:=HL.out;omega) (by have:=HL.out;omega) (by rw [List.length_map];exact HL.out.2.2.2.2.1) (by have:=HL.out;omega) BK.out (cut_cell3 HO.out HS0.out) HO.out HI.out).mono ?_;rintro e w20 ⟨⟨v20,rfl⟩,hb,hbk,Aj,cj,hO,hI2,hk2,ho2⟩;have n0_:=am_ hb;have n1_:=am_ hbk;have n2_:=am_ hO;have n3_:=am_ hI2;have n4_:=am_ (rows_put (j:=((n : Int) - 1).toNat) HS.out (by have:=HL.out;rw [List.length_map];omega) hk2 ho2);clear HB BK HO HI HS;have HB:=n0_;have BK:=n1_;have HO:=n2_;have HI:=n3_;have HS:=n4_;clear n0_ n1_ n2_ n3_ n4_ hb hbk hO hI2 hk2 ho2))
                  go_roundg (a0.size - (i + 1))
                  case measure => have h1_:=HIq.out;have h2_:=HL.out;have h3_:=HIL.out;omega
                  case rel => exact ⟨g,n,c,xs.set ((n : Int) - 1).toNat (Aj,m + 1,cj),Aj,m + 1,cj,o,nw ++ [bt a0 I],i + 1,(by first|rfl|(have h1_:=HIq.out;have h2_:=HL.out;have h3_:=HIL.out;congr 1;unfold wrap64;omega)),⟨by have h1_:=HIq.out;have h2_:=HL.out;have h3_:=HIL.out;refine ⟨by rw [List.length_set];omega,by omega,by omega,by omega,by rw [List.length_append,List.length_singleton];omega,by omega,by omega,?_,by omega,by omega⟩;rw [show ((n : Int) - 1).toNat = n - 1 from by omega];exact List.getElem?_set_self (by omega)⟩,⟨by rw [← HIq.out];exact (altA_on (by have h1_:=HIq.out;have h3_:=HIL.out;omega) (by rw [HIq.out];exact HN.out.1) (by rw [HIq.out];exact HN.out.2.1) (by rw [HIq.out];exact HN.out.2.2.1) (by rw [HIq.out];exact HN.out.2.2.2)).symm.trans HA.out⟩,BK,HNE,HO,⟨by have h_:=HI.out;rw [← show altP (bt a0 I) = (⟨bt a0 I,false,false⟩ : S135) from altP_bt _ _,← List.map_singleton,← List.map_append] at h_;exact h_⟩,HS,HB⟩
        · have c4b0 : decide (I < (a0.size : Int)) = false:=decide_eq_false c4
          obtain ⟨rfl,rfl⟩ : qs = o ++ [nw] ∧ r2 = true:=by have h:=(altA_end (o:=o) (nw:=nw) (show ¬ i < a0.size by omega)).symm.trans HA.out;simp only [Prod.mk.injEq] at h;exact ⟨h.1.symm,h.2.symm⟩
          have HF:=am_ (show Kd.S (Kd.slice 135 k135) 136 _ w.heap.size (fun _ => True) (.slice (some ⟨g,0,none⟩) n c) r1 from by rw [← HQ.out,List.map_append,List.map_singleton];exact rows_R (rows_snoc (ok:=fun k => k ≠ g) rfl (rows_step HS.out (fun _ _ _ => rfl) (fun k_ hk _ => ⟨hk.2.1,hk.2.2⟩) (fun _ _ => rfl)) (by have h_:=HL.out.2.2.2.2.2.2.2.1;have h2_:=HL.out;rw [List.length_map,show o.length = n - 1 from by omega];exact h_) (by rw [List.length_map];exact HL.out.2.2.2.2.1) (Kd.R_mono HI.out (fun _ hk => hk.2))) (by have h2_:=HL.out;simp;omega) HO.out)
          clear c4 hI
          go_wp2
          go_ret2
          exact ⟨_,rf_,sq_ HF,bl_⟩
    · rw [if_neg hz] at h
      cases h
def impl_GoodPattern.f (k : Nat) (a0 : ByteArray) : Option (Bool):=(impl_alternatives.f k a0).bind fun bt1001 => (some bt1001.2)
theorem impl_GoodPattern.mono : ∀ a0 k,LeO (impl_GoodPattern.f k a0) (impl_GoodPattern.f (k + 1) a0):=by
 intro a0 k
 unfold impl_GoodPattern.f
 repeat' with_reducible first|apply impl_alternatives.mono|apply LeO.refl|apply LeO.none|apply LeO.ite|refine LeO.bind ?_ (fun _ => ?_)
theorem impl_GoodPattern.calls (k : Nat) (a0 : ByteArray) (r : Bool) (w : World) (h : impl_GoodPattern.f k a0 = some r) :
  Calls Try.prog 96 #[.string a0] w fun e w' => e = .returned (.bool r) ∧ Below w.heap.size w w':=by
 have HB:=am_ (Below.refl w.heap.size w);have H:=h;clear h;unfold impl_GoodPattern.f at H;replace H:=bs_ H;obtain ⟨⟨t1001,t1002⟩,A2,H⟩:=H;replace H : (some t1002) = some r:=H;obtain rfl:=si_ H;go_enter Try.func96,Try.ntmps96;go_wp2_with (first|((with_reducible refine gate_callee (f:=118) rfl ?_);refine gl_ 7 Try.func118 #[.string a0] ?_;(with_reducible refine (impl_alternatives.calls k a0 t1001 t1002 _ A2.out).mono ?_);rintro e w3 ⟨v1003,rfl,ho0,hb⟩;refine ⟨_,rfl,?_⟩;have HO1004:=am_ (Kd.S_lower ho0 (below_size bl_));replace HB:=am_ (below_step bl_ hb);(try clear hb);(try clear ho0)));go_ret;exact ⟨rf_,bl_⟩
def slices_Index_int_int.l0 : Nat → List Int → Int → Int → Int → Option (Int)
 | 0,_,_,_,_ => none
 | k + 1,x0,x1,x7,x8 => if x8 < x7 then (if 0 ≤ x8 then (if x8 < (x0.length : Int) then (if x1 = (rd x0 x8) then (some x8) else (slices_Index_int_int.l0 k x0 x1 x7 (wrap64 (x8 + 1)))) else (none)) else (none)) else (some (-1))
def slices_Index_int_int.f (k : Nat) (l0 : List Int) (a1 : Int) : Option (Int):=slices_Index_int_int.l0 k l0 a1 (l0.length : Int) 0
theorem slices_Index_int_int.mono_l : ∀ k,(∀ y0 y1 y2 y3,LeO (slices_Index_int_int.l0 k y0 y1 y2 y3) (slices_Index_int_int.l0 (k + 1) y0 y1 y2 y3))
 | 0 => fun _ _ _ _ r h => by simp [slices_Index_int_int.l0] at h
 | k + 1 => by
  have ih0:=slices_Index_int_int.mono_l k
  ·intro y0 y1 y2 y3
   unfold slices_Index_int_int.l0
   repeat' with_reducible first|apply ih0|apply LeO.refl|apply LeO.none|apply LeO.ite|refine LeO.bind ?_ (fun _ => ?_)
theorem slices_Index_int_int.mono : ∀ a0 a1 k,LeO (slices_Index_int_int.f k a0 a1) (slices_Index_int_int.f (k + 1) a0 a1):=by
 intro a0 a1 k
 have ih0:=slices_Index_int_int.mono_l k
 unfold slices_Index_int_int.f
 repeat' with_reducible first|apply ih0|apply LeO.refl|apply LeO.none|apply LeO.ite|refine LeO.bind ?_ (fun _ => ?_)
theorem slices_Index_int_int.calls (k : Nat) (A0 : Option Addr) (c0 : Nat) (l0 : List Int) (a1 : Int) (r : Int) (w : World) (hr0 : Kd.C (Kd.int .i64) w A0 l0.length l0) (hc0 : l0.length ≤ c0) (h : slices_Index_int_int.f k l0 a1 = some r) :
  Calls Try.prog 130 #[.slice A0 l0.length c0,.int .i64 a1] w fun e w' => e = .returned (.int .i64 r) ∧ Drawn0 w w':=by
 have HR0:=am_ hr0;have HC0:=am_ hc0;clear hr0 hc0;have H:=h;clear h;unfold slices_Index_int_int.f at H;have H':=am_ H;clear H;go_enter Try.func130,Try.ntmps130;go_wp2
 go_loopg [8] k (fun kq v8 w' => ∃ (x8_1 : Int),v8 = .int .i64 x8_1 ∧ Aside0 (slices_Index_int_int.l0 kq l0 a1 (l0.length : Int) x8_1 = some r) ∧ Aside0 (kq ≤ k) ∧ Drawn0 w w')
 case atStart => exact ⟨(0),rs_,H',⟨Nat.le_refl _⟩,by repeat (first|exact Drawn0.refl _|apply Drawn0.step)⟩
 case round =>
  clear H';obtain ⟨x8_1,rfl,HA,HK1,⟨m1,rfl⟩⟩:=hrel
  cases gk with
  | zero => exact absurd HA.out (by simp [slices_Index_int_int.l0])
  | succ k1 =>
   have H:=HA.out;clear HA;simp only [slices_Index_int_int.l0] at H
   by_cases c3 : x8_1 < (l0.length : Int)
   ·rw [if_pos c3] at H;have c3b0:=decide_eq_true c3;clear c3;replace H:=is_ H;obtain ⟨c4,H⟩:=H;have c4b0:=decide_eq_true c4;clear c4;replace H:=is_ H;obtain ⟨c5,H⟩:=H;have c5b0:=decide_eq_true c5;clear c5
    by_cases c6 : a1 = (rd l0 x8_1)
    ·rw [if_pos c6] at H;have c6b0:=eb_ c6;have c6b1:=en_ c6;clear c6;obtain rfl:=si_ H;have p1001 : 0 ≤ (x8_1 : Int):=od_;have q1001 : x8_1 < (l0.length : Int):=od_;obtain ⟨ad1001,e1001,hx1001_0⟩:=Kd.at_int HR0.out x8_1 p1001 q1001
     cases e1001
     replace p1001:=eq_true p1001;replace q1001:=eq_true q1001;go_wp2;go_ret;exact ⟨by first|rfl|(simp;done)|(simp [*];done),by repeat (first|exact Drawn0.refl _|apply Drawn0.step)⟩
    ·rw [if_neg c6] at H;have c6b0:=nb_ c6;have c6b1:=nn_ c6;have H':=am_ H;clear H;have p1001 : 0 ≤ (x8_1 : Int):=od_;have q1001 : x8_1 < (l0.length : Int):=od_;obtain ⟨ad1001,e1001,hx1001_0⟩:=Kd.at_int HR0.out x8_1 p1001 q1001
     cases e1001
     replace p1001:=eq_true p1001;replace q1001:=eq_true q1001;go_wp2;go_roundg k1
     case measure => have:=HK1.out;omega
     case rel => exact ⟨(wrap64 (x8_1 + 1)),rs_,H',⟨by have:=HK1.out;omega⟩,by repeat (first|exact Drawn0.refl _|apply Drawn0.step)⟩
   ·rw [if_neg c3] at H;have c3b0:=decide_eq_false c3;clear c3;obtain rfl:=si_ H;go_wp2;go_ret;exact ⟨by first|rfl|(simp;done)|(simp [*];done),by repeat (first|exact Drawn0.refl _|apply Drawn0.step)⟩
def slices_Contains_int_int.f (k : Nat) (l0 : List Int) (a1 : Int) : Option (Bool):=(slices_Index_int_int.f k l0 a1).bind fun t1001 => (some (decide (t1001 ≥ 0)))
theorem slices_Contains_int_int.mono : ∀ a0 a1 k,LeO (slices_Contains_int_int.f k a0 a1) (slices_Contains_int_int.f (k + 1) a0 a1):=by
 intro a0 a1 k
 unfold slices_Contains_int_int.f
 repeat' with_reducible first|apply slices_Index_int_int.mono|apply LeO.refl|apply LeO.none|apply LeO.ite|refine LeO.bind ?_ (fun _ => ?_)
theorem slices_Contains_int_int.calls (k : Nat) (A0 : Option Addr) (c0 : Nat) (l0 : List Int) (a1 : Int) (r : Bool) (w : World) (hr0 : Kd.C (Kd.int .i64) w A0 l0.length l0) (hc0 : l0.length ≤ c0) (h : slices_Contains_int_int.f k l0 a1 = some r) :
  Calls Try.prog 119 #[.slice A0 l0.length c0,.int .i64 a1] w fun e w' => e = .returned (.bool r) ∧ Drawn0 w w':=by
 have HR0:=am_ hr0;have HC0:=am_ hc0;clear hr0 hc0;have H:=h;clear h;unfold slices_Contains_int_int.f at H;replace H:=bs_ H;obtain ⟨t1001,A3,H⟩:=H;obtain rfl:=si_ H;go_enter Try.func119,Try.ntmps119;go_wp2_with (first|((with_reducible refine gate_callee (f:=130) rfl ?_);refine gl_ 7 Try.func130 #[.slice A0 l0.length c0,.int .i64 a1] ?_;(with_reducible refine (slices_Index_int_int.calls k _ _ l0 a1 t1001 _ ?side1 ?side2 A3.out).mono ?_);(case side1 => repeat (first|exact HR0.out|(with_reducible refine Kd.C_alloc ?_ _)|(with_reducible refine Kd.C_drewN ?_ _)|(with_reducible refine Kd.C_drew ?_)));(case side2 => exact HC0.out);rintro e w' ⟨rfl,⟨nd,rfl⟩⟩;refine ⟨_,rfl,?_⟩));go_ret;exact ⟨by first|rfl|(simp;done)|(simp [*];done),by repeat (first|exact Drawn0.refl _|apply Drawn0.step)⟩
def impl_isOne.f (k : Nat) (a0 : Int) (l1 : List Int) : Option (Bool):=(slices_Contains_int_int.f k l1 a0).bind fun t1001 => (some t1001)
theorem impl_isOne.mono : ∀ a0 a1 k,LeO (impl_isOne.f k a0 a1) (impl_isOne.f (k + 1) a0 a1):=by
 intro a0 a1 k
 unfold impl_isOne.f
 repeat' with_reducible first|apply slices_Contains_int_int.mono|apply LeO.refl|apply LeO.none|apply LeO.ite|refine LeO.bind ?_ (fun _ => ?_)
theorem impl_isOne.calls (k : Nat) (a0 : Int) (A1 : Option Addr) (c1 : Nat) (l1 : List Int) (r : Bool) (w : World) (hr1 : Kd.C (Kd.int .i64) w A1 l1.length l1) (hc1 : l1.length ≤ c1) (h : impl_isOne.f k a0 l1 = some r) :
  Calls Try.prog 97 #[.int .i64 a0,.slice A1 l1.length c1] w fun e w' => e = .returned (.bool r) ∧ Drawn0 w w':=by
 have HR1:=am_ hr1;have HC1:=am_ hc1;clear hr1 hc1;have H:=h;clear h;unfold impl_isOne.f at H;replace H:=bs_ H;obtain ⟨t1001,A3,H⟩:=H;obtain rfl:=si_ H;go_enter Try.func97,Try.ntmps97;go_wp2_with (first|((with_reducible refine gate_callee (f:=119) rfl ?_);refine gl_ 7 Try.func119 #[.slice A1 l1.length c1,.int .i64 a0] ?_;(with_reducible refine (slices_Contains_int_int.calls k _ _ l1 a0 t1001 _ ?side1 ?side2 A3.out).mono ?_);(case side1 => repeat (first|exact HR1.out|(with_reducible refine Kd.C_alloc ?_ _)|(with_reducible refine Kd.C_drewN ?_ _)|(with_reducible refine Kd.C_drew ?_)));(case side2 => exact HC1.out);rintro e w' ⟨rfl,⟨nd,rfl⟩⟩;refine ⟨_,rfl,?_⟩));go_ret;exact ⟨by first|rfl|(simp;done)|(simp [*];done),by repeat (first|exact Drawn0.refl _|apply Drawn0.step)⟩
def impl_isFilling.l0 : Nat → ByteArray → Int → Option (Bool)
 | 0,_,_ => none
 | k + 1,x0,x3 => if x3 < (x0.size : Int) then (if 0 ≤ x3 then (if (bt x0 x3) = 36 then (if (wrap64 (x3 + 1)) = (x0.size : Int) then (some false) else (if 0 ≤ (wrap64 (x3 + 1)) then (if (wrap64 (x3 + 1)) < (x0.size : Int) then (if (bt x0 (wrap64 (x3 + 1))) = 36 then (impl_isFilling.l0 k x0 (wrap64 ((wrap64 (x3 + 1)) + 1))) else (if (bt x0 (wrap64 (x3 + 1))) < 49 then (some false) else (if (bt x0 (wrap64 (x3 + 1))) > 57 then (some false) else (impl_isFilling.l0 k x0 (wrap64 ((wrap64 (x3 + 1)) + 1)))))) else (none)) else (none))) else (impl_isFilling.l0 k x0 (wrap64 (x3 + 1)))) else (none)) else (some true)
def impl_isFilling.f (k : Nat) (a0 : ByteArray) : Option (Bool):=(impl_printed.f k a0 100).bind fun t1001 => (if t1001 = true then (impl_isFilling.l0 k a0 0) else (some false))
theorem impl_isFilling.mono_l : ∀ k,(∀ y0 y1,LeO (impl_isFilling.l0 k y0 y1) (impl_isFilling.l0 (k + 1) y0 y1))
 | 0 => fun _ _ r h => by simp [impl_isFilling.l0] at h
 | k + 1 => by
  have ih0:=impl_isFilling.mono_l k
  ·intro y0 y1
   unfold impl_isFilling.l0
   repeat' with_reducible first|apply ih0|apply impl_printed.mono|apply LeO.refl|apply LeO.none|apply LeO.ite|refine LeO.bind ?_ (fun _ => ?_)
theorem impl_isFilling.mono : ∀ a0 k,LeO (impl_isFilling.f k a0) (impl_isFilling.f (k + 1) a0):=by
 intro a0 k
 have ih0:=impl_isFilling.mono_l k
 unfold impl_isFilling.f
 repeat' with_reducible first|apply ih0|apply impl_printed.mono|apply LeO.refl|apply LeO.none|apply LeO.ite|refine LeO.bind ?_ (fun _ => ?_)
theorem impl_isFilling.calls (k : Nat) (a0 : ByteArray) (r : Bool) (w : World) (h : impl_isFilling.f k a0 = some r) :
  Calls Try.prog 98 #[.string a0] w fun e w' => e = .returned (.bool r) ∧ Drawn0 w w':=by
 have H:=h;clear h;unfold impl_isFilling.f at H;replace H:=bs_ H;obtain ⟨t1001,A2,H⟩:=H
 by_cases c3 : t1001 = true
 ·subst c3;replace H:=it_ H;have H':=am_ H;clear H;go_enter Try.func98,Try.ntmps98;go_wp2_with (first|((with_reducible refine gate_callee (f:=95) rfl ?_);refine gl_ 5 Try.func95 #[.string a0,.int .i64 100] ?_;(with_reducible refine (impl_printed.calls k a0 100 true _ A2.out).mono ?_);rintro e w' ⟨rfl,⟨nd,rfl⟩⟩;refine ⟨_,rfl,?_⟩))
  go_loopg [3] k (fun kq v3 w' => ∃ (x3_1 : Int),v3 = .int .i64 x3_1 ∧ Aside0 (impl_isFilling.l0 kq a0 x3_1 = some r) ∧ Aside0 (kq ≤ k) ∧ Drawn0 w w')
  case atStart => exact ⟨(0),rs_,H',⟨Nat.le_refl _⟩,by repeat (first|exact Drawn0.refl _|apply Drawn0.step)⟩
  case round =>
   clear H';(try clear c3);obtain ⟨x3_1,rfl,HA,HK1,⟨m1,rfl⟩⟩:=hrel
   cases gk with
   | zero => exact absurd HA.out (by simp [impl_isFilling.l0])
   | succ k1 =>
    have H:=HA.out;clear HA;simp only [impl_isFilling.l0] at H
    by_cases c4 : x3_1 < (a0.size : Int)
    ·rw [if_pos c4] at H;have c4b0:=decide_eq_true c4;clear c4;replace H:=is_ H;obtain ⟨c5,H⟩:=H;have c5b0:=decide_eq_true c5;clear c5
     by_cases c7 : (bt a0 x3_1) = 36
     ·rw [if_pos c7] at H;have c7b0:=eb_ c7;have c7b1:=en_ c7;clear c7
      by_cases c8 : (wrap64 (x3_1 + 1)) = (a0.size : Int)
      ·rw [if_pos c8] at H;have c8b0:=eb_ c8;have c8b1:=en_ c8;clear c8;obtain rfl:=si_ H;have p6 : 0 ≤ (x3_1 : Int):=od_;have q6 : x3_1 < (a0.size : Int):=od_;have hx6:=bt_at a0 x3_1;replace p6:=eq_true p6;replace q6:=eq_true q6;go_wp2;go_ret;exact ⟨by first|rfl|(simp;done)|(simp [*];done),by repeat (first|exact Drawn0.refl _|apply Drawn0.step)⟩
      ·rw [if_neg c8] at H;have c8b0:=nb_ c8;have c8b1:=nn_ c8;obtain ⟨ji9,hji9⟩ : ∃ j_ : Int,(wrap64 (x3_1 + 1)) = j_:=⟨_,rfl⟩;replace H : (if 0 ≤ (ji9) then (if (ji9) < (a0.size : Int) then (if (bt a0 (ji9)) = 36 then (impl_isFilling.l0 k1 a0 (wrap64 ((ji9) + 1))) else (if (bt a0 (ji9)) < 49 then (some false) else (if (bt a0 (ji9)) > 57 then (some false) else (impl_isFilling.l0 k1 a0 (wrap64 ((ji9) + 1)))))) else (none)) else (none)) = some r:=by first|(rw [hji9] at H;exact H)|(simp only [hji9] at H ⊢;exact H)
       (try rw [hji9] at c8b0);(try rw [hji9] at c8b1);have hji9w : (IntKind.i64.wrap (x3_1 + 1)) = ji9:=(i64_w _).trans hji9;replace H:=is_ H;obtain ⟨c10,H⟩:=H;have c10b0:=decide_eq_true c10;clear c10;replace H:=is_ H;obtain ⟨c11,H⟩:=H;have c11b0:=decide_eq_true c11;clear c11
       by_cases c13 : (bt a0 (ji9)) = 36
       ·rw [if_pos c13] at H;have c13b0:=eb_ c13;have c13b1:=en_ c13;clear c13;have H':=am_ H;clear H;have p6 : 0 ≤ (x3_1 : Int):=od_;have q6 : x3_1 < (a0.size : Int):=od_;have hx6:=bt_at a0 x3_1;replace p6:=eq_true p6;replace q6:=eq_true q6;have p12 : 0 ≤ ((ji9) : Int):=od_;have q12 : (ji9) < (a0.size : Int):=od_;have hx12:=bt_at a0 (ji9);replace p12:=eq_true p12;replace q12:=eq_true q12;go_wp2;go_roundg k1
        case measure => have:=HK1.out;omega
        case rel => exact ⟨(wrap64 ((ji9) + 1)),(by first|rfl|(simp;done)|(simp only [← hji9] <;> (first|rfl|simp))|(simp [*];done)),(by first|exact H'|(simp only [hji9];exact H')|(rw [hji9];exact H')),⟨by have:=HK1.out;omega⟩,by repeat (first|exact Drawn0.refl _|apply Drawn0.step)⟩
       ·rw [if_neg c13] at H;have c13b0:=nb_ c13;have c13b1:=nn_ c13
        by_cases c15 : (bt a0 (ji9)) < 49
        ·rw [if_pos c15] at H;have c15b0:=decide_eq_true c15;clear c15;obtain rfl:=si_ H;have p6 : 0 ≤ (x3_1 : Int):=od_;have q6 : x3_1 < (a0.size : Int):=od_;have hx6:=bt_at a0 x3_1;replace p6:=eq_true p6;replace q6:=eq_true q6;have p12 : 0 ≤ ((ji9) : Int):=od_;have q12 : (ji9) < (a0.size : Int):=od_;have hx12:=bt_at a0 (ji9);replace p12:=eq_true p12;replace q12:=eq_true q12;have p14 : 0 ≤ ((ji9) : Int):=od_;have q14 : (ji9) < (a0.size : Int):=od_;have hx14:=bt_at a0 (ji9);replace p14:=eq_true p14;replace q14:=eq_true q14;go_wp2;go_ret;exact ⟨by first|rfl|(simp;done)|(simp only [← hji9] <;> (first|rfl|simp))|(simp [*];done),by repeat (first|exact Drawn0.refl _|apply Drawn0.step)⟩
        ·rw [if_neg c15] at H;have c15b0:=decide_eq_false c15;clear c15
         by_cases c17 : (bt a0 (ji9)) > 57
         ·rw [if_pos c17] at H;have c17b0:=dg_ c17;clear c17;obtain rfl:=si_ H;have p6 : 0 ≤ (x3_1 : Int):=od_;have q6 : x3_1 < (a0.size : Int):=od_;have hx6:=bt_at a0 x3_1;replace p6:=eq_true p6;replace q6:=eq_true q6;have p12 : 0 ≤ ((ji9) : Int):=od_;have q12 : (ji9) < (a0.size : Int):=od_;have hx12:=bt_at a0 (ji9);replace p12:=eq_true p12;replace q12:=eq_true q12;have p14 : 0 ≤ ((ji9) : Int):=od_;have q14 : (ji9) < (a0.size : Int):=od_;have hx14:=bt_at a0 (ji9);replace p14:=eq_true p14;replace q14:=eq_true q14;have p16 : 0 ≤ ((ji9) : Int):=od_;have q16 : (ji9) < (a0.size : Int):=od_;have hx16:=bt_at a0 (ji9);replace p16:=eq_true p16;replace q16:=eq_true q16;go_wp2;go_ret;exact ⟨by first|rfl|(simp;done)|(simp only [← hji9] <;> (first|rfl|simp))|(simp [*];done),by repeat (first|exact Drawn0.refl _|apply Drawn0.step)⟩
         ·rw [if_neg c17] at H;have c17b0:=df_ c17;clear c17;have H':=am_ H;clear H;have p6 : 0 ≤ (x3_1 : Int):=od_;have q6 : x3_1 < (a0.size : Int):=od_;have hx6:=bt_at a0 x3_1;replace p6:=eq_true p6;replace q6:=eq_true q6;have p12 : 0 ≤ ((ji9) : Int):=od_;have q12 : (ji9) < (a0.size : Int):=od_;have hx12:=bt_at a0 (ji9);replace p12:=eq_true p12;replace q12:=eq_true q12;have p14 : 0 ≤ ((ji9) : Int):=od_;have q14 : (ji9) < (a0.size : Int):=od_;have hx14:=bt_at a0 (ji9);replace p14:=eq_true p14;replace q14:=eq_true q14;have p16 : 0 ≤ ((ji9) : Int):=od_;have q16 : (ji9) < (a0.size : Int):=od_;have hx16:=bt_at a0 (ji9);replace p16:=eq_true p16;replace q16:=eq_true q16;go_wp2;go_roundg k1
          case measure => have:=HK1.out;omega
          case rel => exact ⟨(wrap64 ((ji9) + 1)),(by first|rfl|(simp;done)|(simp only [← hji9] <;> (first|rfl|simp))|(simp [*];done)),(by first|exact H'|(simp only [hji9];exact H')|(rw [hji9];exact H')),⟨by have:=HK1.out;omega⟩,by repeat (first|exact Drawn0.refl _|apply Drawn0.step)⟩
     ·rw [if_neg c7] at H;have c7b0:=nb_ c7;have c7b1:=nn_ c7;have H':=am_ H;clear H;have p6 : 0 ≤ (x3_1 : Int):=od_;have q6 : x3_1 < (a0.size : Int):=od_;have hx6:=bt_at a0 x3_1;replace p6:=eq_true p6;replace q6:=eq_true q6;go_wp2;go_roundg k1
      case measure => have:=HK1.out;omega
      case rel => exact ⟨(wrap64 (x3_1 + 1)),rs_,H',⟨by have:=HK1.out;omega⟩,by repeat (first|exact Drawn0.refl _|apply Drawn0.step)⟩
    ·rw [if_neg c4] at H;have c4b0:=decide_eq_false c4;clear c4;obtain rfl:=si_ H;go_wp2;go_ret;exact ⟨by first|rfl|(simp;done)|(simp [*];done),by repeat (first|exact Drawn0.refl _|apply Drawn0.step)⟩
 ·replace c3:=Bool.eq_false_iff.mpr c3;subst c3;replace H:=if_ H;obtain rfl:=si_ H;go_enter Try.func98,Try.ntmps98;go_wp2_with (first|((with_reducible refine gate_callee (f:=95) rfl ?_);refine gl_ 5 Try.func95 #[.string a0,.int .i64 100] ?_;(with_reducible refine (impl_printed.calls k a0 100 false _ A2.out).mono ?_);rintro e w' ⟨rfl,⟨nd,rfl⟩⟩;refine ⟨_,rfl,?_⟩));go_ret;exact ⟨by first|rfl|(simp;done)|(simp [*];done),by repeat (first|exact Drawn0.refl _|apply Drawn0.step)⟩
end Go.Proofs.Ytfdbbpnmnogddaa.Pr
