/- Functions of the given program as plain Lean functions, and that the machine's calls come to them; written by a program of this session; no condition but those that each theorem states. -/
import Derived.Test.YtfdbbpnmnogddaaGreatDoorWRepsOne
import Derived.Test.YtfdbbpnmnogddaaGreatDoorPrx0
set_option maxHeartbeats 8000000
set_option maxRecDepth 100000
namespace Go.Proofs.YtfdbbpnmnogddaaGreatDoor.Pr
open Go.RowKit Go.Proofs.YtfdbbpnmnogddaaGreatDoorW.PrintWords Go.Proofs.YtfdbbpnmnogddaaGreatDoorW.PrintLast Go.Proofs.YtfdbbpnmnogddaaGreatDoorW.PrintMore
attribute [local go_sem] max2_int min2_int max_two min_two max_three min_three max_four min_four
set_option linter.unusedVariables false
set_option linter.unusedSimpArgs false
def spec_l2Digit.f (a0:Int):Option (Bool):=if a0>=48 then (some (decide (a0<=57))) else (some false)
theorem spec_l2Digit.calls (a0:Int)(r:Bool)(w:World)(h:spec_l2Digit.f a0=some r) :
  Calls Tryz.prog 31 #[.int .u8 a0] w fun e w'=>e = .returned (.bool r)/\Drawn0 w w':=by
 have H:=h;clear h;unfold spec_l2Digit.f at H
 by_cases c2:a0>=48
 ·rw [if_pos c2] at H;have c2b0:decide (48<=a0)=true:=decide_eq_true c2;clear c2;obtain rfl:=si_ H;go_enter Tryz.func31,Tryz.ntmps31;go_wp2;go_ret;exact ⟨by first|rfl|(simp;done)|(simp [*];done),by repeat (first|exact Drawn0.refl _|apply Drawn0.step)⟩
 ·rw [if_neg c2] at H;have c2b0:decide (48<=a0)=false:=decide_eq_false c2;clear c2;obtain rfl:=si_ H;go_enter Tryz.func31,Tryz.ntmps31;go_wp2;go_ret;exact ⟨by first|rfl|(simp;done)|(simp [*];done),by repeat (first|exact Drawn0.refl _|apply Drawn0.step)⟩
def spec_l2Letter.f (a0:Int):Option (Bool):=if a0>=97 then (if a0<=122 then (some true) else (if a0>=65 then (some (decide (a0<=90))) else (some false))) else (if a0>=65 then (some (decide (a0<=90))) else (some false))
theorem spec_l2Letter.calls (a0:Int)(r:Bool)(w:World)(h:spec_l2Letter.f a0=some r) :
  Calls Tryz.prog 32 #[.int .u8 a0] w fun e w'=>e = .returned (.bool r)/\Drawn0 w w':=by
 have H:=h;clear h;unfold spec_l2Letter.f at H
 by_cases c2:a0>=97
 ·rw [if_pos c2] at H;have c2b0:decide (97<=a0)=true:=decide_eq_true c2;clear c2
  by_cases c3:a0<=122
  ·rw [if_pos c3] at H;have c3b0:=decide_eq_true c3;clear c3;obtain rfl:=si_ H;go_enter Tryz.func32,Tryz.ntmps32;go_wp2;go_ret;exact ⟨by first|rfl|(simp;done)|(simp [*];done),by repeat (first|exact Drawn0.refl _|apply Drawn0.step)⟩
  ·rw [if_neg c3] at H;have c3b0:=decide_eq_false c3;clear c3
   by_cases c4:a0>=65
   ·rw [if_pos c4] at H;have c4b0:decide (65<=a0)=true:=decide_eq_true c4;clear c4;obtain rfl:=si_ H;go_enter Tryz.func32,Tryz.ntmps32;go_wp2;go_ret;exact ⟨by first|rfl|(simp;done)|(simp [*];done),by repeat (first|exact Drawn0.refl _|apply Drawn0.step)⟩
   ·rw [if_neg c4] at H;have c4b0:decide (65<=a0)=false:=decide_eq_false c4;clear c4;obtain rfl:=si_ H;go_enter Tryz.func32,Tryz.ntmps32;go_wp2;go_ret;exact ⟨by first|rfl|(simp;done)|(simp [*];done),by repeat (first|exact Drawn0.refl _|apply Drawn0.step)⟩
 ·rw [if_neg c2] at H;have c2b0:decide (97<=a0)=false:=decide_eq_false c2;clear c2
  by_cases c5:a0>=65
  ·rw [if_pos c5] at H;have c5b0:decide (65<=a0)=true:=decide_eq_true c5;clear c5;obtain rfl:=si_ H;go_enter Tryz.func32,Tryz.ntmps32;go_wp2;go_ret;exact ⟨by first|rfl|(simp;done)|(simp [*];done),by repeat (first|exact Drawn0.refl _|apply Drawn0.step)⟩
  ·rw [if_neg c5] at H;have c5b0:decide (65<=a0)=false:=decide_eq_false c5;clear c5;obtain rfl:=si_ H;go_enter Tryz.func32,Tryz.ntmps32;go_wp2;go_ret;exact ⟨by first|rfl|(simp;done)|(simp [*];done),by repeat (first|exact Drawn0.refl _|apply Drawn0.step)⟩
mutual
def spec_l2Name.j0:Nat->ByteArray->Bool->Option (Bool)
 | 0,_,_=>none
 | k+1,x0,x16=>if x16=true then (some false) else (spec_l2Name.l0 k x0 0)
def spec_l2Name.l0:Nat->ByteArray->Int->Option (Bool)
 | 0,_,_=>none
 | k+1,x0,x3=>if x3<(x0.size:Int) then (if 0<=x3 then ((spec_l2Letter.f (bt x0 x3)).bind fun t1002=>(if t1002=true then (spec_l2Name.l0 k x0 (wrap64 (x3+1))) else ((spec_l2Digit.f (bt x0 x3)).bind fun t1003=>(if t1003=true then (spec_l2Name.l0 k x0 (wrap64 (x3+1))) else (if (bt x0 x3)=95 then (spec_l2Name.l0 k x0 (wrap64 (x3+1))) else (some false)))))) else (none)) else (some true)
end
def spec_l2Name.f (k:Nat)(a0:ByteArray):Option (Bool):=if (a0.size:Int)<1 then (spec_l2Name.j0 k a0 true) else (if (a0.size:Int)>40 then (spec_l2Name.j0 k a0 true) else (if 0<(a0.size:Int) then ((spec_l2Digit.f (bt a0 0)).bind fun t1001=>(spec_l2Name.j0 k a0 t1001)) else (none)))
theorem spec_l2Name.mono_l:∀ k,(∀ y0 y1,LeO (spec_l2Name.j0 k y0 y1) (spec_l2Name.j0 (k+1) y0 y1))/\(∀ y0 y1,LeO (spec_l2Name.l0 k y0 y1) (spec_l2Name.l0 (k+1) y0 y1))
 | 0=>⟨fun _ _ r h=>by simp [spec_l2Name.j0] at h,fun _ _ r h=>by simp [spec_l2Name.l0] at h⟩
 | k+1=>by
  obtain ⟨ih0,ih1⟩:=spec_l2Name.mono_l k
  refine ⟨?_,?_⟩
  ·intro y0 y1
   unfold spec_l2Name.j0
   repeat' with_reducible first|apply ih0|apply ih1|apply LeO.refl|apply LeO.none|apply LeO.ite|refine LeO.bind ?_ (fun _ => ?_)
  ·intro y0 y1
   unfold spec_l2Name.l0
   repeat' with_reducible first|apply ih0|apply ih1|apply LeO.refl|apply LeO.none|apply LeO.ite|refine LeO.bind ?_ (fun _ => ?_)
theorem spec_l2Name.mono:∀ a0 k,LeO (spec_l2Name.f k a0) (spec_l2Name.f (k+1) a0):=by
 intro a0 k
 obtain ⟨ih0,ih1⟩:=spec_l2Name.mono_l k
 unfold spec_l2Name.f
 repeat' with_reducible first|apply ih0|apply ih1|apply LeO.refl|apply LeO.none|apply LeO.ite|refine LeO.bind ?_ (fun _ => ?_)
theorem spec_l2Name.calls (k:Nat)(a0:ByteArray)(r:Bool)(w:World)(h:spec_l2Name.f k a0=some r) :
  Calls Tryz.prog 16 #[.string a0] w fun e w'=>e = .returned (.bool r)/\Drawn0 w w':=by
 have H:=h;clear h;unfold spec_l2Name.f at H;have HC2:=am_ H;clear H;go_enter Tryz.func16,Tryz.ntmps16;go_upto_region 1 with (fail)
 go_cut [16] (fun v16 wc=>∃ (kq:Nat) (x16_1:Bool),v16 = .bool x16_1/\Aside0 (spec_l2Name.j0 kq a0 x16_1=some r)/\Aside0 (kq<=k)/\Drawn0 w wc)
 case first =>
  have H:=HC2.out;clear HC2
  by_cases c3:(a0.size:Int)<1
  ·rw [if_pos c3] at H;have c3b0:=decide_eq_true c3;have c3b1:decide (a0.size<1)=true:=decide_eq_true (by omega);clear c3;(first|rw [c3b0]|(simp only [i64_w,i32_w];rw [c3b0])|skip);have H':=am_ H;clear H;go_wp2;go_meet
   case rel=>exact ⟨_,(true),rs_,H',⟨by first|omega|exact Nat.le_refl _⟩,by repeat (first|exact Drawn0.refl _|apply Drawn0.step)⟩
  ·rw [if_neg c3] at H;have c3b0:=decide_eq_false c3;have c3b1:decide (a0.size<1)=false:=decide_eq_false (by omega);clear c3;(first|rw [c3b0]|(simp only [i64_w,i32_w];rw [c3b0])|skip)
   by_cases c4:(a0.size:Int)>40
   ·rw [if_pos c4] at H;have c4b0:=dg_ c4;have c4b1:decide (40<a0.size)=true:=decide_eq_true (by omega);clear c4;have H':=am_ H;clear H;go_wp2;go_meet
    case rel=>exact ⟨_,(true),rs_,H',⟨by first|omega|exact Nat.le_refl _⟩,by repeat (first|exact Drawn0.refl _|apply Drawn0.step)⟩
   ·rw [if_neg c4] at H;have c4b0:=df_ c4;have c4b1:decide (40<a0.size)=false:=decide_eq_false (by omega);clear c4;replace H:=is_ H;obtain ⟨c5,H⟩:=H;have c5b0:=decide_eq_true c5;have c5b1:decide (0<a0.size)=true:=decide_eq_true (by omega);clear c5;replace H:=bs_ H;obtain ⟨t1001,A7,H⟩:=H;have H':=am_ H;clear H;have p6:0<=(0:Int):=(by omega);have q6:0<a0.size:=(by have:(0:Int)<(a0.size:Int):=od_;omega);have hx6:∀ h:0<a0.size,((a0[0]'h).toNat:Int)=bt a0 0:=bt_at a0 0;clear p6;have qi6:(0<(a0.size:Int))=True:=eq_true (od_);replace q6:=eq_true q6;go_wp2_with (first|(go_at_call 31;(with_reducible refine (spec_l2Digit.calls (bt a0 0) t1001 _ A7.out).mono ?_);rintro e w' ⟨rfl,⟨nd,rfl⟩⟩));go_meet
    case rel=>exact ⟨_,(t1001),rs_,H',⟨by first|omega|exact Nat.le_refl _⟩,by repeat (first|exact Drawn0.refl _|apply Drawn0.step)⟩
 case rest =>
  clear HC2;obtain ⟨kq,x16_1,rfl,HA,HJ1,⟨mc1,rfl⟩⟩:=hcut
  cases kq with
  | zero=>exact absurd HA.out (by simp [spec_l2Name.j0])
  | succ kj1 =>
   have H:=HA.out;clear HA;simp only [spec_l2Name.j0] at H
   by_cases c8:x16_1=true
   ·subst c8;replace H:=it_ H;obtain rfl:=si_ H;go_wp2;go_ret;exact ⟨by first|rfl|(simp;done)|(simp [*];done),by repeat (first|exact Drawn0.refl _|apply Drawn0.step)⟩
   ·replace c8:=Bool.eq_false_iff.mpr c8;subst c8;replace H:=if_ H;have H':=am_ H;clear H;go_wp2
    go_loopg [3] kj1 (fun kq v3 w'=>∃ (x3_2:Int),v3 = .int .i64 x3_2/\Aside0 (spec_l2Name.l0 kq a0 x3_2=some r)/\Aside0 (kq<=kj1)/\Drawn0 w w')
    case atStart=>exact ⟨(0),rs_,H',⟨Nat.le_refl _⟩,by repeat (first|exact Drawn0.refl _|apply Drawn0.step)⟩
    case round =>
     clear H';(try clear c8);obtain ⟨x3_2,rfl,HA,HK2,⟨m2,rfl⟩⟩:=hrel
     cases gk with
     | zero=>exact absurd HA.out (by simp [spec_l2Name.l0])
     | succ k2 =>
      have H:=HA.out;clear HA;simp only [spec_l2Name.l0] at H
      by_cases c9:x3_2<(a0.size:Int)
      ·rw [if_pos c9] at H;have c9b0:=decide_eq_true c9;clear c9;replace H:=is_ H;obtain ⟨c10,H⟩:=H;have c10b0:=decide_eq_true c10;clear c10;replace H:=bs_ H;obtain ⟨t1002,A12,H⟩:=H
       by_cases c13:t1002=true
       ·subst c13;replace H:=it_ H;have H':=am_ H;clear H;have p11:0<=(x3_2:Int):=od_;have q11:x3_2<(a0.size:Int):=od_;have hx11:=bt_at a0 x3_2;replace p11:=eq_true p11;replace q11:=eq_true q11;go_wp2_with (first|((with_reducible refine gate_callee (f:=32) rfl ?_);refine gl_ 26 Tryz.func32 #[.int .u8 (bt a0 x3_2)] ?_;(with_reducible refine (spec_l2Letter.calls (bt a0 x3_2) true _ A12.out).mono ?_);rintro e w' ⟨rfl,⟨nd,rfl⟩⟩;refine ⟨_,rfl,?_⟩));go_roundg k2
        case measure=>have:=HJ1.out;have:=HK2.out;omega
        case rel=>exact ⟨(wrap64 (x3_2+1)),rs_,H',⟨by have:=HJ1.out;have:=HK2.out;omega⟩,by repeat (first|exact Drawn0.refl _|apply Drawn0.step)⟩
       ·replace c13:=Bool.eq_false_iff.mpr c13;subst c13;replace H:=if_ H;replace H:=bs_ H;obtain ⟨t1003,A15,H⟩:=H
        by_cases c16:t1003=true
        ·subst c16;replace H:=it_ H;have H':=am_ H;clear H;have p11:0<=(x3_2:Int):=od_;have q11:x3_2<(a0.size:Int):=od_;have hx11:=bt_at a0 x3_2;replace p11:=eq_true p11;replace q11:=eq_true q11;go_wp2_with (first|((with_reducible refine gate_callee (f:=32) rfl ?_);refine gl_ 26 Tryz.func32 #[.int .u8 (bt a0 x3_2)] ?_;(with_reducible refine (spec_l2Letter.calls (bt a0 x3_2) false _ A12.out).mono ?_);rintro e w' ⟨rfl,⟨nd,rfl⟩⟩;refine ⟨_,rfl,?_⟩;have p14:0<=(x3_2:Int):=od_;have q14:x3_2<(a0.size:Int):=od_;have hx14:=bt_at a0 x3_2;replace p14:=eq_true p14;replace q14:=eq_true q14)|(go_at_call 31;(with_reducible refine (spec_l2Digit.calls (bt a0 x3_2) true _ A15.out).mono ?_);rintro e w' ⟨rfl,⟨nd,rfl⟩⟩));go_roundg k2
         case measure=>have:=HJ1.out;have:=HK2.out;omega
         case rel=>exact ⟨(wrap64 (x3_2+1)),rs_,H',⟨by have:=HJ1.out;have:=HK2.out;omega⟩,by repeat (first|exact Drawn0.refl _|apply Drawn0.step)⟩
        ·replace c16:=Bool.eq_false_iff.mpr c16;subst c16;replace H:=if_ H
         by_cases c18:(bt a0 x3_2)=95
         ·rw [if_pos c18] at H;have c18b0:=eb_ c18;have c18b1:=en_ c18;clear c18;have H':=am_ H;clear H;have p11:0<=(x3_2:Int):=od_;have q11:x3_2<(a0.size:Int):=od_;have hx11:=bt_at a0 x3_2;replace p11:=eq_true p11;replace q11:=eq_true q11;go_wp2_with (first|((with_reducible refine gate_callee (f:=32) rfl ?_);refine gl_ 26 Tryz.func32 #[.int .u8 (bt a0 x3_2)] ?_;(with_reducible refine (spec_l2Letter.calls (bt a0 x3_2) false _ A12.out).mono ?_);rintro e w' ⟨rfl,⟨nd,rfl⟩⟩;refine ⟨_,rfl,?_⟩;have p14:0<=(x3_2:Int):=od_;have q14:x3_2<(a0.size:Int):=od_;have hx14:=bt_at a0 x3_2;replace p14:=eq_true p14;replace q14:=eq_true q14)|(go_at_call 31;(with_reducible refine (spec_l2Digit.calls (bt a0 x3_2) false _ A15.out).mono ?_);rintro e w' ⟨rfl,⟨nd,rfl⟩⟩;have p17:0<=(x3_2:Int):=od_;have q17:x3_2<(a0.size:Int):=od_;have hx17:=bt_at a0 x3_2;replace p17:=eq_true p17;replace q17:=eq_true q17));go_roundg k2
          case measure=>have:=HJ1.out;have:=HK2.out;omega
          case rel=>exact ⟨(wrap64 (x3_2+1)),rs_,H',⟨by have:=HJ1.out;have:=HK2.out;omega⟩,by repeat (first|exact Drawn0.refl _|apply Drawn0.step)⟩
         ·rw [if_neg c18] at H;have c18b0:=nb_ c18;have c18b1:=nn_ c18;obtain rfl:=si_ H;have p11:0<=(x3_2:Int):=od_;have q11:x3_2<(a0.size:Int):=od_;have hx11:=bt_at a0 x3_2;replace p11:=eq_true p11;replace q11:=eq_true q11;go_wp2_with (first|((with_reducible refine gate_callee (f:=32) rfl ?_);refine gl_ 26 Tryz.func32 #[.int .u8 (bt a0 x3_2)] ?_;(with_reducible refine (spec_l2Letter.calls (bt a0 x3_2) false _ A12.out).mono ?_);rintro e w' ⟨rfl,⟨nd,rfl⟩⟩;refine ⟨_,rfl,?_⟩;have p14:0<=(x3_2:Int):=od_;have q14:x3_2<(a0.size:Int):=od_;have hx14:=bt_at a0 x3_2;replace p14:=eq_true p14;replace q14:=eq_true q14)|(go_at_call 31;(with_reducible refine (spec_l2Digit.calls (bt a0 x3_2) false _ A15.out).mono ?_);rintro e w' ⟨rfl,⟨nd,rfl⟩⟩;have p17:0<=(x3_2:Int):=od_;have q17:x3_2<(a0.size:Int):=od_;have hx17:=bt_at a0 x3_2;replace p17:=eq_true p17;replace q17:=eq_true q17));go_ret;exact ⟨by first|rfl|(simp;done)|(simp [*];done),by repeat (first|exact Drawn0.refl _|apply Drawn0.step)⟩
      ·rw [if_neg c9] at H;have c9b0:=decide_eq_false c9;clear c9;obtain rfl:=si_ H;go_wp2;go_ret;exact ⟨by first|rfl|(simp;done)|(simp [*];done),by repeat (first|exact Drawn0.refl _|apply Drawn0.step)⟩
def spec_l2Printed.l0:Nat->ByteArray->Int->Option (Bool)
 | 0,_,_=>none
 | k+1,x0,x3=>if x3<(x0.size:Int) then (if 0<=x3 then (if (bt x0 x3)<32 then (some false) else (if (bt x0 x3)>126 then (some false) else (spec_l2Printed.l0 k x0 (wrap64 (x3+1))))) else (none)) else (some true)
def spec_l2Printed.f (k:Nat)(a0:ByteArray):Option (Bool):=spec_l2Printed.l0 k a0 0
theorem spec_l2Printed.mono_l:∀ k,(∀ y0 y1,LeO (spec_l2Printed.l0 k y0 y1) (spec_l2Printed.l0 (k+1) y0 y1))
 | 0=>fun _ _ r h=>by simp [spec_l2Printed.l0] at h
 | k+1=>by
  have ih0:=spec_l2Printed.mono_l k
  ·intro y0 y1
   unfold spec_l2Printed.l0
   repeat' with_reducible first|apply ih0|apply LeO.refl|apply LeO.none|apply LeO.ite|refine LeO.bind ?_ (fun _ => ?_)
theorem spec_l2Printed.mono:∀ a0 k,LeO (spec_l2Printed.f k a0) (spec_l2Printed.f (k+1) a0):=by
 intro a0 k
 have ih0:=spec_l2Printed.mono_l k
 unfold spec_l2Printed.f
 repeat' with_reducible first|apply ih0|apply LeO.refl|apply LeO.none|apply LeO.ite|refine LeO.bind ?_ (fun _ => ?_)
theorem spec_l2Printed.calls (k:Nat)(a0:ByteArray)(r:Bool)(w:World)(h:spec_l2Printed.f k a0=some r) :
  Calls Tryz.prog 17 #[.string a0] w fun e w'=>e = .returned (.bool r)/\Drawn0 w w':=by
 have H:=h;clear h;unfold spec_l2Printed.f at H;have H':=am_ H;clear H;go_enter Tryz.func17,Tryz.ntmps17;go_wp2
 go_loopg [3] k (fun kq v3 w'=>∃ (x3_1:Int),v3 = .int .i64 x3_1/\Aside0 (spec_l2Printed.l0 kq a0 x3_1=some r)/\Aside0 (kq<=k)/\Drawn0 w w')
 case atStart=>exact ⟨(0),rs_,H',⟨Nat.le_refl _⟩,by repeat (first|exact Drawn0.refl _|apply Drawn0.step)⟩
 case round =>
  clear H';obtain ⟨x3_1,rfl,HA,HK1,⟨m1,rfl⟩⟩:=hrel
  cases gk with
  | zero=>exact absurd HA.out (by simp [spec_l2Printed.l0])
  | succ k1 =>
   have H:=HA.out;clear HA;simp only [spec_l2Printed.l0] at H
   by_cases c2:x3_1<(a0.size:Int)
   ·rw [if_pos c2] at H;have c2b0:=decide_eq_true c2;clear c2;replace H:=is_ H;obtain ⟨c3,H⟩:=H;have c3b0:=decide_eq_true c3;clear c3
    by_cases c5:(bt a0 x3_1)<32
    ·rw [if_pos c5] at H;have c5b0:=decide_eq_true c5;clear c5;obtain rfl:=si_ H;have p4:0<=(x3_1:Int):=od_;have q4:x3_1<(a0.size:Int):=od_;have hx4:=bt_at a0 x3_1;replace p4:=eq_true p4;replace q4:=eq_true q4;go_wp2;go_ret;exact ⟨by first|rfl|(simp;done)|(simp [*];done),by repeat (first|exact Drawn0.refl _|apply Drawn0.step)⟩
    ·rw [if_neg c5] at H;have c5b0:=decide_eq_false c5;clear c5
     by_cases c7:(bt a0 x3_1)>126
     ·rw [if_pos c7] at H;have c7b0:=dg_ c7;clear c7;obtain rfl:=si_ H;have p4:0<=(x3_1:Int):=od_;have q4:x3_1<(a0.size:Int):=od_;have hx4:=bt_at a0 x3_1;replace p4:=eq_true p4;replace q4:=eq_true q4;have p6:0<=(x3_1:Int):=od_;have q6:x3_1<(a0.size:Int):=od_;have hx6:=bt_at a0 x3_1;replace p6:=eq_true p6;replace q6:=eq_true q6;go_wp2;go_ret;exact ⟨by first|rfl|(simp;done)|(simp [*];done),by repeat (first|exact Drawn0.refl _|apply Drawn0.step)⟩
     ·rw [if_neg c7] at H;have c7b0:=df_ c7;clear c7;have H':=am_ H;clear H;have p4:0<=(x3_1:Int):=od_;have q4:x3_1<(a0.size:Int):=od_;have hx4:=bt_at a0 x3_1;replace p4:=eq_true p4;replace q4:=eq_true q4;have p6:0<=(x3_1:Int):=od_;have q6:x3_1<(a0.size:Int):=od_;have hx6:=bt_at a0 x3_1;replace p6:=eq_true p6;replace q6:=eq_true q6;go_wp2;go_roundg k1
      case measure=>have:=HK1.out;omega
      case rel=>exact ⟨(wrap64 (x3_1+1)),rs_,H',⟨by have:=HK1.out;omega⟩,by repeat (first|exact Drawn0.refl _|apply Drawn0.step)⟩
   ·rw [if_neg c2] at H;have c2b0:=decide_eq_false c2;clear c2;obtain rfl:=si_ H;go_wp2;go_ret;exact ⟨by first|rfl|(simp;done)|(simp [*];done),by repeat (first|exact Drawn0.refl _|apply Drawn0.step)⟩
def spec_l3Belongs.f (a0:Int)(a1:ByteArray):Option (Bool):=if a0=1 then (some (a1.toList==([]:List UInt8))) else (if a0=2 then (some (a1.toList==([95,116,111,116,97,108]:List UInt8))) else (if a0=3 then (if a1.toList=([95,98,117,99,107,101,116]:List UInt8) then (some true) else (if a1.toList=([95,99,111,117,110,116]:List UInt8) then (some true) else (some (a1.toList==([95,115,117,109]:List UInt8))))) else (if a0=4 then (some (a1.toList==([95,105,110,102,111]:List UInt8))) else (some false))))
theorem spec_l3Belongs.calls (a0:Int)(a1:ByteArray)(r:Bool)(w:World)(h:spec_l3Belongs.f a0 a1=some r) :
  Calls Tryz.prog 33 #[.int .i64 a0,.string a1] w fun e w'=>e = .returned (.bool r)/\Drawn0 w w':=by
 have H:=h;clear h;unfold spec_l3Belongs.f at H
 by_cases c3:a0=1
 ·rw [if_pos c3] at H;have c3b0:=eb_ c3;have c3b1:=en_ c3;clear c3;obtain rfl:=si_ H;go_enter Tryz.func33,Tryz.ntmps33;go_wp2;go_ret;exact ⟨by first|rfl|(simp;done)|(simp [*];done),by repeat (first|exact Drawn0.refl _|apply Drawn0.step)⟩
 ·rw [if_neg c3] at H;have c3b0:=nb_ c3;have c3b1:=nn_ c3
  by_cases c4:a0=2
  ·rw [if_pos c4] at H;have c4b0:=eb_ c4;have c4b1:=en_ c4;clear c4;obtain rfl:=si_ H;go_enter Tryz.func33,Tryz.ntmps33;go_wp2;go_ret;exact ⟨by first|rfl|(simp;done)|(simp [*];done),by repeat (first|exact Drawn0.refl _|apply Drawn0.step)⟩
  ·rw [if_neg c4] at H;have c4b0:=nb_ c4;have c4b1:=nn_ c4
   by_cases c5:a0=3
   ·rw [if_pos c5] at H;have c5b0:=eb_ c5;have c5b1:=en_ c5;clear c5
    by_cases c6:a1.toList=([95,98,117,99,107,101,116]:List UInt8)
    ·rw [if_pos c6] at H;have c6b0:=eb_ c6;have c6b1:=en_ c6;clear c6;obtain rfl:=si_ H;go_enter Tryz.func33,Tryz.ntmps33;go_wp2;go_ret;exact ⟨by first|rfl|(simp;done)|(simp [*];done),by repeat (first|exact Drawn0.refl _|apply Drawn0.step)⟩
    ·rw [if_neg c6] at H;have c6b0:=nb_ c6;have c6b1:=nn_ c6
     by_cases c7:a1.toList=([95,99,111,117,110,116]:List UInt8)
     ·rw [if_pos c7] at H;have c7b0:=eb_ c7;have c7b1:=en_ c7;clear c7;obtain rfl:=si_ H;go_enter Tryz.func33,Tryz.ntmps33;go_wp2;go_ret;exact ⟨by first|rfl|(simp;done)|(simp [*];done),by repeat (first|exact Drawn0.refl _|apply Drawn0.step)⟩
     ·rw [if_neg c7] at H;have c7b0:=nb_ c7;have c7b1:=nn_ c7;obtain rfl:=si_ H;go_enter Tryz.func33,Tryz.ntmps33;go_wp2;go_ret;exact ⟨by first|rfl|(simp;done)|(simp [*];done),by repeat (first|exact Drawn0.refl _|apply Drawn0.step)⟩
   ·rw [if_neg c5] at H;have c5b0:=nb_ c5;have c5b1:=nn_ c5
    by_cases c8:a0=4
    ·rw [if_pos c8] at H;have c8b0:=eb_ c8;have c8b1:=en_ c8;clear c8;obtain rfl:=si_ H;go_enter Tryz.func33,Tryz.ntmps33;go_wp2;go_ret;exact ⟨by first|rfl|(simp;done)|(simp [*];done),by repeat (first|exact Drawn0.refl _|apply Drawn0.step)⟩
    ·rw [if_neg c8] at H;have c8b0:=nb_ c8;have c8b1:=nn_ c8;obtain rfl:=si_ H;go_enter Tryz.func33,Tryz.ntmps33;go_wp2;go_ret;exact ⟨by first|rfl|(simp;done)|(simp [*];done),by repeat (first|exact Drawn0.refl _|apply Drawn0.step)⟩
def spec_l2CmpNum.f (a0:Int)(a1:Int):Option (Int):=if a0<a1 then (some (-1)) else (if a0>a1 then (some 1) else (some 0))
theorem spec_l2CmpNum.calls (a0:Int)(a1:Int)(r:Int)(w:World)(h:spec_l2CmpNum.f a0 a1=some r) :
  Calls Tryz.prog 37 #[.int .i64 a0,.int .i64 a1] w fun e w'=>e = .returned (.int .i64 r)/\Drawn0 w w':=by
 have H:=h;clear h;unfold spec_l2CmpNum.f at H
 by_cases c3:a0<a1
 ·rw [if_pos c3] at H;have c3b0:=decide_eq_true c3;clear c3;obtain rfl:=si_ H;go_enter Tryz.func37,Tryz.ntmps37;go_wp2;go_ret;exact ⟨by first|rfl|(simp;done)|(simp [*];done),by repeat (first|exact Drawn0.refl _|apply Drawn0.step)⟩
 ·rw [if_neg c3] at H;have c3b0:=decide_eq_false c3;clear c3
  by_cases c4:a0>a1
  ·rw [if_pos c4] at H;have c4b0:=dg_ c4;clear c4;obtain rfl:=si_ H;go_enter Tryz.func37,Tryz.ntmps37;go_wp2;go_ret;exact ⟨by first|rfl|(simp;done)|(simp [*];done),by repeat (first|exact Drawn0.refl _|apply Drawn0.step)⟩
  ·rw [if_neg c4] at H;have c4b0:=df_ c4;clear c4;obtain rfl:=si_ H;go_enter Tryz.func37,Tryz.ntmps37;go_wp2;go_ret;exact ⟨by first|rfl|(simp;done)|(simp [*];done),by repeat (first|exact Drawn0.refl _|apply Drawn0.step)⟩
mutual
def spec_l2CmpText.l0:Nat->ByteArray->ByteArray->Int->Option (Int)
 | 0,_,_,_=>none
 | k+1,x0,x1,x5=>if x5<(x0.size:Int) then (spec_l2CmpText.j1 k x0 x1 x5 (decide (x5<(x1.size:Int)))) else (spec_l2CmpText.j1 k x0 x1 x5 false)
def spec_l2CmpText.j1:Nat->ByteArray->ByteArray->Int->Bool->Option (Int)
 | 0,_,_,_,_=>none
 | k+1,x0,x1,x5,x15=>if x15=true then (if 0<=x5 then (if x5<(x0.size:Int) then (if x5<(x1.size:Int) then (if (bt x0 x5)=(bt x1 x5) then (spec_l2CmpText.l0 k x0 x1 (wrap64 (x5+1))) else ((spec_l2CmpNum.f (wrap64 (bt x0 x5)) (wrap64 (bt x1 x5))).bind fun t1001=>(some t1001))) else (none)) else (none)) else (none)) else ((spec_l2CmpNum.f (x0.size:Int) (x1.size:Int)).bind fun t1002=>(some t1002))
end
def spec_l2CmpText.f (k:Nat)(a0:ByteArray)(a1:ByteArray):Option (Int):=spec_l2CmpText.l0 k a0 a1 0
theorem spec_l2CmpText.mono_l:∀ k,(∀ y0 y1 y2,LeO (spec_l2CmpText.l0 k y0 y1 y2) (spec_l2CmpText.l0 (k+1) y0 y1 y2))/\(∀ y0 y1 y2 y3,LeO (spec_l2CmpText.j1 k y0 y1 y2 y3) (spec_l2CmpText.j1 (k+1) y0 y1 y2 y3))
 | 0=>⟨fun _ _ _ r h=>by simp [spec_l2CmpText.l0] at h,fun _ _ _ _ r h=>by simp [spec_l2CmpText.j1] at h⟩
 | k+1=>by
  obtain ⟨ih0,ih1⟩:=spec_l2CmpText.mono_l k
  refine ⟨?_,?_⟩
  ·intro y0 y1 y2
   unfold spec_l2CmpText.l0
   repeat' with_reducible first|apply ih0|apply ih1|apply LeO.refl|apply LeO.none|apply LeO.ite|refine LeO.bind ?_ (fun _ => ?_)
  ·intro y0 y1 y2 y3
   unfold spec_l2CmpText.j1
   repeat' with_reducible first|apply ih0|apply ih1|apply LeO.refl|apply LeO.none|apply LeO.ite|refine LeO.bind ?_ (fun _ => ?_)
theorem spec_l2CmpText.mono:∀ a0 a1 k,LeO (spec_l2CmpText.f k a0 a1) (spec_l2CmpText.f (k+1) a0 a1):=by
 intro a0 a1 k
 obtain ⟨ih0,ih1⟩:=spec_l2CmpText.mono_l k
 unfold spec_l2CmpText.f
 repeat' with_reducible first|apply ih0|apply ih1|apply LeO.refl|apply LeO.none|apply LeO.ite|refine LeO.bind ?_ (fun _ => ?_)
theorem spec_l2CmpText.calls (k:Nat)(a0:ByteArray)(a1:ByteArray)(r:Int)(w:World)(h:spec_l2CmpText.f k a0 a1=some r) :
  Calls Tryz.prog 28 #[.string a0,.string a1] w fun e w'=>e = .returned (.int .i64 r)/\Drawn0 w w':=by
 have H:=h;clear h;unfold spec_l2CmpText.f at H;have H':=am_ H;clear H;go_enter Tryz.func28,Tryz.ntmps28;go_wp2
 go_loopg [5] k (fun kq v5 w'=>∃ (x5_1:Int),v5 = .int .i64 x5_1/\Aside0 (spec_l2CmpText.l0 kq a0 a1 x5_1=some r)/\Aside0 (kq<=k)/\Drawn0 w w')
 case atStart=>exact ⟨(0),rs_,H',⟨Nat.le_refl _⟩,by repeat (first|exact Drawn0.refl _|apply Drawn0.step)⟩
 case round =>
  clear H';obtain ⟨x5_1,rfl,HA,HK1,⟨m1,rfl⟩⟩:=hrel
  cases gk with
  | zero=>exact absurd HA.out (by simp [spec_l2CmpText.l0])
  | succ k1 =>
   have H:=HA.out;clear HA;simp only [spec_l2CmpText.l0] at H;have HC3:=am_ H;clear H;go_upto_region 2 with (fail)
   go_cut [15] (fun v15 wc=>∃ (kq:Nat) (x15_2:Bool),v15 = .bool x15_2/\Aside0 (spec_l2CmpText.j1 kq a0 a1 x5_1 x15_2=some r)/\Aside0 (kq<=k1)/\Drawn0 w wc)
   case first =>
    have H:=HC3.out;clear HC3
    by_cases c4:x5_1<(a0.size:Int)
    ·rw [if_pos c4] at H;have c4b0:=decide_eq_true c4;clear c4;(first|rw [c4b0]|(simp only [i64_w,i32_w];rw [c4b0])|skip);have H':=am_ H;clear H;go_wp2;go_meet
     case rel=>exact ⟨_,(decide (x5_1<(a1.size:Int))),rs_,H',⟨by have:=HK1.out;first|omega|exact Nat.le_refl _⟩,by repeat (first|exact Drawn0.refl _|apply Drawn0.step)⟩
    ·rw [if_neg c4] at H;have c4b0:=decide_eq_false c4;clear c4;(first|rw [c4b0]|(simp only [i64_w,i32_w];rw [c4b0])|skip);have H':=am_ H;clear H;go_wp2;go_meet
     case rel=>exact ⟨_,(false),rs_,H',⟨by have:=HK1.out;first|omega|exact Nat.le_refl _⟩,by repeat (first|exact Drawn0.refl _|apply Drawn0.step)⟩
   case rest =>
    clear HC3;obtain ⟨kq,x15_2,rfl,HA,HJ2,⟨mc2,rfl⟩⟩:=hcut
    cases kq with
    | zero=>exact absurd HA.out (by simp [spec_l2CmpText.j1])
    | succ kj2 =>
     have H:=HA.out;clear HA;simp only [spec_l2CmpText.j1] at H
     by_cases c5:x15_2=true
     ·subst c5;replace H:=it_ H;replace H:=is_ H;obtain ⟨c6,H⟩:=H;have c6b0:=decide_eq_true c6;clear c6;replace H:=is_ H;obtain ⟨c7,H⟩:=H;have c7b0:=decide_eq_true c7;clear c7;replace H:=is_ H;obtain ⟨c9,H⟩:=H;have c9b0:=decide_eq_true c9;clear c9
      by_cases c11:(bt a0 x5_1)=(bt a1 x5_1)
      ·rw [if_pos c11] at H;have c11b0:=eb_ c11;have c11b1:=en_ c11;clear c11;have H':=am_ H;clear H;have p8:0<=(x5_1:Int):=od_;have q8:x5_1<(a0.size:Int):=od_;have hx8:=bt_at a0 x5_1;replace p8:=eq_true p8;replace q8:=eq_true q8;have p10:0<=(x5_1:Int):=od_;have q10:x5_1<(a1.size:Int):=od_;have hx10:=bt_at a1 x5_1;replace p10:=eq_true p10;replace q10:=eq_true q10;go_wp2;(repeat (go_quiet (fail);try go_wp2));go_roundg kj2
       case measure=>have:=HK1.out;have:=HJ2.out;omega
       case rel=>exact ⟨(wrap64 (x5_1+1)),rs_,H',⟨by have:=HK1.out;have:=HJ2.out;omega⟩,by repeat (first|exact Drawn0.refl _|apply Drawn0.step)⟩
      ·rw [if_neg c11] at H;have c11b0:=nb_ c11;have c11b1:=nn_ c11;replace H:=bs_ H;obtain ⟨t1001,A14,H⟩:=H;obtain rfl:=si_ H;have p8:0<=(x5_1:Int):=od_;have q8:x5_1<(a0.size:Int):=od_;have hx8:=bt_at a0 x5_1;replace p8:=eq_true p8;replace q8:=eq_true q8;have p10:0<=(x5_1:Int):=od_;have q10:x5_1<(a1.size:Int):=od_;have hx10:=bt_at a1 x5_1;replace p10:=eq_true p10;replace q10:=eq_true q10;have p12:0<=(x5_1:Int):=od_;have q12:x5_1<(a0.size:Int):=od_;have hx12:=bt_at a0 x5_1;replace p12:=eq_true p12;replace q12:=eq_true q12;have p13:0<=(x5_1:Int):=od_;have q13:x5_1<(a1.size:Int):=od_;have hx13:=bt_at a1 x5_1;replace p13:=eq_true p13;replace q13:=eq_true q13;go_wp2_with (fail);(repeat (go_quiet (first|(go_at_call 37;(with_reducible refine (spec_l2CmpNum.calls (wrap64 (bt a0 x5_1)) (wrap64 (bt a1 x5_1)) t1001 _ A14.out).mono ?_);rintro e w' ⟨rfl,⟨nd,rfl⟩⟩;(try exact dd_)));try go_wp2));go_ret;exact ⟨by first|rfl|(simp;done)|(simp [*];done),by repeat (first|exact Drawn0.refl _|apply Drawn0.step)⟩
     ·replace c5:=Bool.eq_false_iff.mpr c5;subst c5;replace H:=if_ H;replace H:=bs_ H;obtain ⟨t1002,A15,H⟩:=H;obtain rfl:=si_ H;go_wp2_with (first|(go_at_call 37;(with_reducible refine (spec_l2CmpNum.calls (a0.size:Int) (a1.size:Int) t1002 _ A15.out).mono ?_);rintro e w' ⟨rfl,⟨nd,rfl⟩⟩;(try exact dd_)));go_ret;exact ⟨by first|rfl|(simp;done)|(simp [*];done),by repeat (first|exact Drawn0.refl _|apply Drawn0.step)⟩
def spec_l2Value.f (k:Nat)(a0:ByteArray):Option (Bool):=if (a0.size:Int)>=1 then (if (a0.size:Int)<=100 then ((spec_l2Printed.f k a0).bind fun t1001=>(some t1001)) else (some false)) else (some false)
theorem spec_l2Value.mono:∀ a0 k,LeO (spec_l2Value.f k a0) (spec_l2Value.f (k+1) a0):=by
 intro a0 k
 unfold spec_l2Value.f
 repeat' with_reducible first|apply spec_l2Printed.mono|apply LeO.refl|apply LeO.none|apply LeO.ite|refine LeO.bind ?_ (fun _ => ?_)
theorem spec_l2Value.calls (k:Nat)(a0:ByteArray)(r:Bool)(w:World)(h:spec_l2Value.f k a0=some r) :
  Calls Tryz.prog 56 #[.string a0] w fun e w'=>e = .returned (.bool r)/\Drawn0 w w':=by
 have H:=h;clear h;unfold spec_l2Value.f at H
 by_cases c2:(a0.size:Int)>=1
 ·rw [if_pos c2] at H;have c2b0:decide (1<=(a0.size:Int))=true:=decide_eq_true c2;have c2b1:decide (1<=a0.size)=true:=decide_eq_true (by omega);clear c2
  by_cases c3:(a0.size:Int)<=100
  ·rw [if_pos c3] at H;have c3b0:=decide_eq_true c3;have c3b1:decide (a0.size<=100)=true:=decide_eq_true (by omega);clear c3;replace H:=bs_ H;obtain ⟨t1001,A4,H⟩:=H;obtain rfl:=si_ H;go_enter Tryz.func56,Tryz.ntmps56;go_wp2_with (first|(go_at_call 17;(with_reducible refine (spec_l2Printed.calls k a0 t1001 _ A4.out).mono ?_);rintro e w' ⟨rfl,⟨nd,rfl⟩⟩));go_ret;exact ⟨by first|rfl|(simp;done)|(simp [*];done),by repeat (first|exact Drawn0.refl _|apply Drawn0.step)⟩
  ·rw [if_neg c3] at H;have c3b0:=decide_eq_false c3;have c3b1:decide (a0.size<=100)=false:=decide_eq_false (by omega);clear c3;obtain rfl:=si_ H;go_enter Tryz.func56,Tryz.ntmps56;go_wp2;go_ret;exact ⟨by first|rfl|(simp;done)|(simp [*];done),by repeat (first|exact Drawn0.refl _|apply Drawn0.step)⟩
 ·rw [if_neg c2] at H;have c2b0:decide (1<=(a0.size:Int))=false:=decide_eq_false c2;have c2b1:decide (1<=a0.size)=false:=decide_eq_false (by omega);clear c2;obtain rfl:=si_ H;go_enter Tryz.func56,Tryz.ntmps56;go_wp2;go_ret;exact ⟨by first|rfl|(simp;done)|(simp [*];done),by repeat (first|exact Drawn0.refl _|apply Drawn0.step)⟩
def spec_GoodLabels.l0:Nat->List (S70)->List (S70)->Int->Int->Option (Bool)
 | 0,_,_,_,_=>none
 | k+1,x0,x8,x9,x10=>if x10<x9 then (if 0<=x10 then (if x10<(x8.length:Int) then ((spec_l2Name.f k ((rd_T70 x8 x10).f0)).bind fun t1003=>(if t1003=true then ((spec_l2Value.f k ((rd_T70 x8 x10).f1)).bind fun t1004=>(if t1004=true then (if x10>0 then (if 0<=(wrap64 (x10-1)) then (if (wrap64 (x10-1))<(x0.length:Int) then ((spec_l2CmpText.f k ((rd_T70 x0 (wrap64 (x10-1))).f0) ((rd_T70 x8 x10).f0)).bind fun t1006=>(if t1006>=0 then (some false) else (spec_GoodLabels.l0 k x0 x8 x9 (wrap64 (x10+1))))) else (none)) else (none)) else (spec_GoodLabels.l0 k x0 x8 x9 (wrap64 (x10+1)))) else (some false))) else (some false))) else (none)) else (none)) else (some true)
def spec_GoodLabels.f (k:Nat)(l0:List (S70)):Option (Bool):=if (l0.length:Int)>20 then (some false) else (spec_GoodLabels.l0 k l0 l0 (l0.length:Int) 0)
theorem spec_GoodLabels.mono_l:∀ k,(∀ y0 y1 y2 y3,LeO (spec_GoodLabels.l0 k y0 y1 y2 y3) (spec_GoodLabels.l0 (k+1) y0 y1 y2 y3))
 | 0=>fun _ _ _ _ r h=>by simp [spec_GoodLabels.l0] at h
 | k+1=>by
  have ih0:=spec_GoodLabels.mono_l k
  ·intro y0 y1 y2 y3
   unfold spec_GoodLabels.l0
   repeat' with_reducible first|apply ih0|apply spec_l2CmpText.mono|apply spec_l2Name.mono|apply spec_l2Value.mono|apply LeO.refl|apply LeO.none|apply LeO.ite|refine LeO.bind ?_ (fun _ => ?_)
theorem spec_GoodLabels.mono:∀ a0 k,LeO (spec_GoodLabels.f k a0) (spec_GoodLabels.f (k+1) a0):=by
 intro a0 k
 have ih0:=spec_GoodLabels.mono_l k
 unfold spec_GoodLabels.f
 repeat' with_reducible first|apply ih0|apply spec_l2CmpText.mono|apply spec_l2Name.mono|apply spec_l2Value.mono|apply LeO.refl|apply LeO.none|apply LeO.ite|refine LeO.bind ?_ (fun _ => ?_)
theorem spec_GoodLabels.calls (k:Nat)(A0:Option Addr)(c0:Nat)(l0:List (S70))(r:Bool)(w:World)(hr0:Kd.C k70 w A0 l0.length l0)(hc0:l0.length<=c0)(h:spec_GoodLabels.f k l0=some r) :
  Calls Tryz.prog 34 #[.slice A0 l0.length c0] w fun e w'=>e = .returned (.bool r)/\Below w.heap.size w w':=by
 have hu70:=Tryz.underlying70;have HR0:=am_ hr0;have HC0:=am_ hc0;clear hr0 hc0;have HB:=am_ (Below.refl w.heap.size w);have H:=h;clear h;unfold spec_GoodLabels.f at H
 by_cases c2:(l0.length:Int)>20
 ·rw [if_pos c2] at H;have c2b0:=dg_ c2;have c2b1:decide (20<l0.length)=true:=decide_eq_true (by omega);clear c2;obtain rfl:=si_ H;go_enter Tryz.func34,Tryz.ntmps34;go_wp2;go_ret;exact ⟨rf_,bl_⟩
 ·rw [if_neg c2] at H;have c2b0:=df_ c2;have c2b1:decide (20<l0.length)=false:=decide_eq_false (by omega);clear c2;have H':=am_ H;clear H;go_enter Tryz.func34,Tryz.ntmps34;go_wp2
  go_loopg [10] k (fun kq v10 w'=>∃ (x10_1:Int),v10 = .int .i64 x10_1/\Aside0 (spec_GoodLabels.l0 kq l0 l0 (l0.length:Int) x10_1=some r)/\Aside0 (kq<=k)/\Aside0 (Below w.heap.size w w'))
  case atStart=>exact ⟨(0),rs_,H',⟨Nat.le_refl _⟩,⟨bl_⟩⟩
  case round =>
   clear H';(try clear c2);(try clear c2b0);(try clear c2b1);obtain ⟨x10_1,rfl,HA,HK1,HB⟩:=hrel
   cases gk with
   | zero=>exact absurd HA.out (by simp [spec_GoodLabels.l0])
   | succ k1 =>
    have H:=HA.out;clear HA;simp only [spec_GoodLabels.l0] at H
    by_cases c3:x10_1<(l0.length:Int)
    ·rw [if_pos c3] at H;have c3b0:=decide_eq_true c3;clear c3;replace H:=is_ H;obtain ⟨c4,H⟩:=H;have c4b0:=decide_eq_true c4;clear c4;replace H:=is_ H;obtain ⟨c5,H⟩:=H;have c5b0:=decide_eq_true c5;clear c5;replace H:=bs_ H;obtain ⟨t1003,A6,H⟩:=H
     by_cases c7:t1003=true
     ·subst c7;replace H:=it_ H;replace H:=bs_ H;obtain ⟨t1004,A8,H⟩:=H
      by_cases c9:t1004=true
      ·subst c9;replace H:=it_ H
       by_cases c10:x10_1>0
       ·rw [if_pos c10] at H;have c10b0:=dg_ c10;clear c10;obtain ⟨ji11,hji11⟩:∃ j_:Int,(wrap64 (x10_1-1))=j_:=⟨_,rfl⟩;replace H:(if 0<=(ji11) then (if (ji11)<(l0.length:Int) then ((spec_l2CmpText.f k1 ((rd_T70 l0 (ji11)).f0) ((rd_T70 l0 x10_1).f0)).bind fun t1006=>(if t1006>=0 then (some false) else (spec_GoodLabels.l0 k1 l0 l0 (l0.length:Int) (wrap64 (x10_1+1))))) else (none)) else (none))=some r:=by first|(rw [hji11] at H;exact H)|(simp only [hji11] at H ⊢;exact H)
        (try rw [hji11] at A6);(try rw [hji11] at A8);have hji11w:(IntKind.i64.wrap (x10_1-1))=ji11:=(i64_w _).trans hji11;replace H:=is_ H;obtain ⟨c12,H⟩:=H;have c12b0:=decide_eq_true c12;clear c12;replace H:=is_ H;obtain ⟨c13,H⟩:=H;have c13b0:=decide_eq_true c13;clear c13;replace H:=bs_ H;obtain ⟨t1006,A14,H⟩:=H
        by_cases c15:t1006>=0
        ·rw [if_pos c15] at H;have c15b0:decide (0<=t1006)=true:=decide_eq_true c15;clear c15;obtain rfl:=si_ H;have p1001:0<=(x10_1:Int):=od_;have q1001:x10_1<(l0.length:Int):=od_;obtain ⟨ad1001,e1001,hx1001_0,hx1001_1⟩:=at_T70 HR0.out x10_1 p1001 q1001
         cases e1001
         replace hx1001_0:=kp_ HB hx1001_0;replace hx1001_1:=kp_ HB hx1001_1;replace p1001:=eq_true p1001;replace q1001:=eq_true q1001;go_wp2_with (first|((with_reducible refine gate_dst (N:=4) rfl ?_);refine bx_ 4 #[.string (⟨#[]⟩:ByteArray),.string (⟨#[]⟩:ByteArray)] 70 ?_;intro gb1002 hg w16 hbox hb;have BK1002:=am_ (hbox);have GW1002:=am_ (gs_ hg:w.heap.size<=gb1002);replace HB:=am_ (below_step bl_ hb);have GE1002:=GW1002;clear hb hbox hg;have hz17:=bk2_ BK1002));(repeat (go_quiet (first|(go_at_call 16;(with_reducible refine (spec_l2Name.calls k1 ((rd_T70 l0 x10_1).f0) true _ A6.out).mono ?_);rintro e w' ⟨rfl,⟨nd,rfl⟩⟩;(try exact dd_))|(go_at_call 56;(with_reducible refine (spec_l2Value.calls k1 ((rd_T70 l0 x10_1).f1) true _ A8.out).mono ?_);rintro e w' ⟨rfl,⟨nd,rfl⟩⟩;(try exact dd_);have p1005:0<=((ji11):Int):=od_;have q1005:(ji11)<(l0.length:Int):=od_;obtain ⟨ad1005,e1005,hx1005_0,hx1005_1⟩:=at_T70 HR0.out (ji11) p1005 q1005;obtain rfl:ad1001=ad1005:=(by injection e1005);have hn1005_0:ad1001.block≠gb1002:=hb_ hx1005_0 GW1002;have hn1005_1:ad1001.block≠gb1002:=hb_ hx1005_0 GW1002;replace hx1005_0:=kp_ HB hx1005_0;replace hx1005_1:=kp_ HB hx1005_1;replace hx1005_0:=cf_ gb1002 0 hn1005_0 (.string ((rd_T70 l0 x10_1).f0)) hx1005_0;replace hx1005_1:=cf_ gb1002 0 hn1005_0 (.string ((rd_T70 l0 x10_1).f0)) hx1005_1;replace hx1005_0:=cf_ gb1002 1 hn1005_1 (.string ((rd_T70 l0 x10_1).f1)) hx1005_0;replace hx1005_1:=cf_ gb1002 1 hn1005_1 (.string ((rd_T70 l0 x10_1).f1)) hx1005_1;(try have hy1005_0:=fun (n_:Nat)=>(show ((((w16.drewN n_).setCell ⟨gb1002,0,none⟩ (.string ((rd_T70 l0 x10_1).f0))).setCell ⟨gb1002,1,none⟩ (.string ((rd_T70 l0 x10_1).f1)))).cell? _=some _ from hx1005_0));(try have hy1005_1:=fun (n_:Nat)=>(show ((((w16.drewN n_).setCell ⟨gb1002,0,none⟩ (.string ((rd_T70 l0 x10_1).f0))).setCell ⟨gb1002,1,none⟩ (.string ((rd_T70 l0 x10_1).f1)))).cell? _=some _ from hx1005_1));clear hn1005_0;clear hn1005_1;replace p1005:=eq_true p1005;replace q1005:=eq_true q1005)|(go_at_call 28;(with_reducible refine (spec_l2CmpText.calls k1 ((rd_T70 l0 (ji11)).f0) ((rd_T70 l0 x10_1).f0) t1006 _ A14.out).mono ?_);rintro e w' ⟨rfl,⟨nd,rfl⟩⟩;(try exact dd_)));try go_wp2));go_ret;exact ⟨by first|rfl|(simp [errW_none,errW_some] <;> rfl)|(simp only [← hji11];first|rfl|(simp [errW_none,errW_some] <;> rfl))|(simp [*,errW_none,errW_some] <;> rfl)|(simp [*,Go.Proofs.YtfdbbpnmnogddaaGreatDoor.Gt.nil_bne];done),bg_⟩
        ·rw [if_neg c15] at H;have c15b0:decide (0<=t1006)=false:=decide_eq_false c15;clear c15;have H':=am_ H;clear H;have p1001:0<=(x10_1:Int):=od_;have q1001:x10_1<(l0.length:Int):=od_;obtain ⟨ad1001,e1001,hx1001_0,hx1001_1⟩:=at_T70 HR0.out x10_1 p1001 q1001
         cases e1001
         replace hx1001_0:=kp_ HB hx1001_0;replace hx1001_1:=kp_ HB hx1001_1;replace p1001:=eq_true p1001;replace q1001:=eq_true q1001;go_wp2_with (first|((with_reducible refine gate_dst (N:=4) rfl ?_);refine bx_ 4 #[.string (⟨#[]⟩:ByteArray),.string (⟨#[]⟩:ByteArray)] 70 ?_;intro gb1002 hg w18 hbox hb;have BK1002:=am_ (hbox);have GW1002:=am_ (gs_ hg:w.heap.size<=gb1002);replace HB:=am_ (below_step bl_ hb);have GE1002:=GW1002;clear hb hbox hg;have hz19:=bk2_ BK1002));(repeat (go_quiet (first|(go_at_call 16;(with_reducible refine (spec_l2Name.calls k1 ((rd_T70 l0 x10_1).f0) true _ A6.out).mono ?_);rintro e w' ⟨rfl,⟨nd,rfl⟩⟩;(try exact dd_))|(go_at_call 56;(with_reducible refine (spec_l2Value.calls k1 ((rd_T70 l0 x10_1).f1) true _ A8.out).mono ?_);rintro e w' ⟨rfl,⟨nd,rfl⟩⟩;(try exact dd_);have p1005:0<=((ji11):Int):=od_;have q1005:(ji11)<(l0.length:Int):=od_;obtain ⟨ad1005,e1005,hx1005_0,hx1005_1⟩:=at_T70 HR0.out (ji11) p1005 q1005;obtain rfl:ad1001=ad1005:=(by injection e1005);have hn1005_0:ad1001.block≠gb1002:=hb_ hx1005_0 GW1002;have hn1005_1:ad1001.block≠gb1002:=hb_ hx1005_0 GW1002;replace hx1005_0:=kp_ HB hx1005_0;replace hx1005_1:=kp_ HB hx1005_1;replace hx1005_0:=cf_ gb1002 0 hn1005_0 (.string ((rd_T70 l0 x10_1).f0)) hx1005_0;replace hx1005_1:=cf_ gb1002 0 hn1005_0 (.string ((rd_T70 l0 x10_1).f0)) hx1005_1;replace hx1005_0:=cf_ gb1002 1 hn1005_1 (.string ((rd_T70 l0 x10_1).f1)) hx1005_0;replace hx1005_1:=cf_ gb1002 1 hn1005_1 (.string ((rd_T70 l0 x10_1).f1)) hx1005_1;(try have hy1005_0:=fun (n_:Nat)=>(show ((((w18.drewN n_).setCell ⟨gb1002,0,none⟩ (.string ((rd_T70 l0 x10_1).f0))).setCell ⟨gb1002,1,none⟩ (.string ((rd_T70 l0 x10_1).f1)))).cell? _=some _ from hx1005_0));(try have hy1005_1:=fun (n_:Nat)=>(show ((((w18.drewN n_).setCell ⟨gb1002,0,none⟩ (.string ((rd_T70 l0 x10_1).f0))).setCell ⟨gb1002,1,none⟩ (.string ((rd_T70 l0 x10_1).f1)))).cell? _=some _ from hx1005_1));clear hn1005_0;clear hn1005_1;replace p1005:=eq_true p1005;replace q1005:=eq_true q1005)|(go_at_call 28;(with_reducible refine (spec_l2CmpText.calls k1 ((rd_T70 l0 (ji11)).f0) ((rd_T70 l0 x10_1).f0) t1006 _ A14.out).mono ?_);rintro e w' ⟨rfl,⟨nd,rfl⟩⟩;(try exact dd_)));try go_wp2));go_roundg k1
         case measure=>have:=HK1.out;omega
         case rel=>exact ⟨(wrap64 (x10_1+1)),rs_,H',⟨by have:=HK1.out;omega⟩,⟨bg_⟩⟩
       ·rw [if_neg c10] at H;have c10b0:=df_ c10;clear c10;have H':=am_ H;clear H;have p1001:0<=(x10_1:Int):=od_;have q1001:x10_1<(l0.length:Int):=od_;obtain ⟨ad1001,e1001,hx1001_0,hx1001_1⟩:=at_T70 HR0.out x10_1 p1001 q1001
        cases e1001
        replace hx1001_0:=kp_ HB hx1001_0;replace hx1001_1:=kp_ HB hx1001_1;replace p1001:=eq_true p1001;replace q1001:=eq_true q1001;go_wp2_with (first|((with_reducible refine gate_dst (N:=4) rfl ?_);refine bx_ 4 #[.string (⟨#[]⟩:ByteArray),.string (⟨#[]⟩:ByteArray)] 70 ?_;intro gb1002 hg w20 hbox hb;have BK1002:=am_ (hbox);have GW1002:=am_ (gs_ hg:w.heap.size<=gb1002);replace HB:=am_ (below_step bl_ hb);have GE1002:=GW1002;clear hb hbox hg;have hz21:=bk2_ BK1002));(repeat (go_quiet (first|(go_at_call 16;(with_reducible refine (spec_l2Name.calls k1 ((rd_T70 l0 x10_1).f0) true _ A6.out).mono ?_);rintro e w' ⟨rfl,⟨nd,rfl⟩⟩;(try exact dd_))|(go_at_call 56;(with_reducible refine (spec_l2Value.calls k1 ((rd_T70 l0 x10_1).f1) true _ A8.out).mono ?_);rintro e w' ⟨rfl,⟨nd,rfl⟩⟩;(try exact dd_)));try go_wp2));go_roundg k1
        case measure=>have:=HK1.out;omega
        case rel=>exact ⟨(wrap64 (x10_1+1)),rs_,H',⟨by have:=HK1.out;omega⟩,⟨bg_⟩⟩
      ·replace c9:=Bool.eq_false_iff.mpr c9;subst c9;replace H:=if_ H;obtain rfl:=si_ H;have p1001:0<=(x10_1:Int):=od_;have q1001:x10_1<(l0.length:Int):=od_;obtain ⟨ad1001,e1001,hx1001_0,hx1001_1⟩:=at_T70 HR0.out x10_1 p1001 q1001
       cases e1001
       replace hx1001_0:=kp_ HB hx1001_0;replace hx1001_1:=kp_ HB hx1001_1;replace p1001:=eq_true p1001;replace q1001:=eq_true q1001;go_wp2_with (first|((with_reducible refine gate_dst (N:=4) rfl ?_);refine bx_ 4 #[.string (⟨#[]⟩:ByteArray),.string (⟨#[]⟩:ByteArray)] 70 ?_;intro gb1002 hg w22 hbox hb;have BK1002:=am_ (hbox);have GW1002:=am_ (gs_ hg:w.heap.size<=gb1002);replace HB:=am_ (below_step bl_ hb);have GE1002:=GW1002;clear hb hbox hg;have hz23:=bk2_ BK1002));(repeat (go_quiet (first|(go_at_call 16;(with_reducible refine (spec_l2Name.calls k1 ((rd_T70 l0 x10_1).f0) true _ A6.out).mono ?_);rintro e w' ⟨rfl,⟨nd,rfl⟩⟩;(try exact dd_))|(go_at_call 56;(with_reducible refine (spec_l2Value.calls k1 ((rd_T70 l0 x10_1).f1) false _ A8.out).mono ?_);rintro e w' ⟨rfl,⟨nd,rfl⟩⟩;(try exact dd_)));try go_wp2));go_ret;exact ⟨rf_,bg_⟩
     ·replace c7:=Bool.eq_false_iff.mpr c7;subst c7;replace H:=if_ H;obtain rfl:=si_ H;have p1001:0<=(x10_1:Int):=od_;have q1001:x10_1<(l0.length:Int):=od_;obtain ⟨ad1001,e1001,hx1001_0,hx1001_1⟩:=at_T70 HR0.out x10_1 p1001 q1001
      cases e1001
      replace hx1001_0:=kp_ HB hx1001_0;replace hx1001_1:=kp_ HB hx1001_1;replace p1001:=eq_true p1001;replace q1001:=eq_true q1001;go_wp2_with (first|((with_reducible refine gate_dst (N:=4) rfl ?_);refine bx_ 4 #[.string (⟨#[]⟩:ByteArray),.string (⟨#[]⟩:ByteArray)] 70 ?_;intro gb1002 hg w24 hbox hb;have BK1002:=am_ (hbox);have GW1002:=am_ (gs_ hg:w.heap.size<=gb1002);replace HB:=am_ (below_step bl_ hb);have GE1002:=GW1002;clear hb hbox hg;have hz25:=bk2_ BK1002));(repeat (go_quiet (first|(go_at_call 16;(with_reducible refine (spec_l2Name.calls k1 ((rd_T70 l0 x10_1).f0) false _ A6.out).mono ?_);rintro e w' ⟨rfl,⟨nd,rfl⟩⟩;(try exact dd_)));try go_wp2));go_ret;exact ⟨rf_,bg_⟩
    ·rw [if_neg c3] at H;have c3b0:=decide_eq_false c3;clear c3;obtain rfl:=si_ H;go_wp2;go_ret;exact ⟨rf_,bl_⟩
def spec_l2Of.l0:Nat->ByteArray->List (S70)->Int->Int->Option (ByteArray)
 | 0,_,_,_,_=>none
 | k+1,x1,x7,x8,x9=>if x9<x8 then (if 0<=x9 then (if x9<(x7.length:Int) then (if ((rd_T70 x7 x9).f0).toList=x1.toList then (some ((rd_T70 x7 x9).f1)) else (spec_l2Of.l0 k x1 x7 x8 (wrap64 (x9+1)))) else (none)) else (none)) else (some (⟨#[]⟩:ByteArray))
def spec_l2Of.f (k:Nat)(l0:List (S70))(a1:ByteArray):Option (ByteArray):=spec_l2Of.l0 k a1 l0 (l0.length:Int) 0
theorem spec_l2Of.mono_l:∀ k,(∀ y0 y1 y2 y3,LeO (spec_l2Of.l0 k y0 y1 y2 y3) (spec_l2Of.l0 (k+1) y0 y1 y2 y3))
 | 0=>fun _ _ _ _ r h=>by simp [spec_l2Of.l0] at h
 | k+1=>by
  have ih0:=spec_l2Of.mono_l k
  ·intro y0 y1 y2 y3
   unfold spec_l2Of.l0
   repeat' with_reducible first|apply ih0|apply LeO.refl|apply LeO.none|apply LeO.ite|refine LeO.bind ?_ (fun _ => ?_)
theorem spec_l2Of.mono:∀ a0 a1 k,LeO (spec_l2Of.f k a0 a1) (spec_l2Of.f (k+1) a0 a1):=by
 intro a0 a1 k
 have ih0:=spec_l2Of.mono_l k
 unfold spec_l2Of.f
 repeat' with_reducible first|apply ih0|apply LeO.refl|apply LeO.none|apply LeO.ite|refine LeO.bind ?_ (fun _ => ?_)
theorem spec_l2Of.calls (k:Nat)(A0:Option Addr)(c0:Nat)(l0:List (S70))(a1:ByteArray)(r:ByteArray)(w:World)(hr0:Kd.C k70 w A0 l0.length l0)(hc0:l0.length<=c0)(h:spec_l2Of.f k l0 a1=some r) :
  Calls Tryz.prog 35 #[.slice A0 l0.length c0,.string a1] w fun e w'=>e = .returned (.string r)/\Below w.heap.size w w':=by
 have hu70:=Tryz.underlying70;have HR0:=am_ hr0;have HC0:=am_ hc0;clear hr0 hc0;have HB:=am_ (Below.refl w.heap.size w);have H:=h;clear h;unfold spec_l2Of.f at H;have H':=am_ H;clear H;go_enter Tryz.func35,Tryz.ntmps35;go_wp2
 go_loopg [9] k (fun kq v9 w'=>∃ (x9_1:Int),v9 = .int .i64 x9_1/\Aside0 (spec_l2Of.l0 kq a1 l0 (l0.length:Int) x9_1=some r)/\Aside0 (kq<=k)/\Aside0 (Below w.heap.size w w'))
 case atStart=>exact ⟨(0),rs_,H',⟨Nat.le_refl _⟩,⟨bl_⟩⟩
 case round =>
  clear H';obtain ⟨x9_1,rfl,HA,HK1,HB⟩:=hrel
  cases gk with
  | zero=>exact absurd HA.out (by simp [spec_l2Of.l0])
  | succ k1 =>
   have H:=HA.out;clear HA;simp only [spec_l2Of.l0] at H
   by_cases c3:x9_1<(l0.length:Int)
   ·rw [if_pos c3] at H;have c3b0:=decide_eq_true c3;clear c3;replace H:=is_ H;obtain ⟨c4,H⟩:=H;have c4b0:=decide_eq_true c4;clear c4;replace H:=is_ H;obtain ⟨c5,H⟩:=H;have c5b0:=decide_eq_true c5;clear c5
    by_cases c6:((rd_T70 l0 x9_1).f0).toList=a1.toList
    ·rw [if_pos c6] at H;have c6b0:=eb_ c6;have c6b1:=en_ c6;clear c6;obtain rfl:=si_ H;have p1001:0<=(x9_1:Int):=od_;have q1001:x9_1<(l0.length:Int):=od_;obtain ⟨ad1001,e1001,hx1001_0,hx1001_1⟩:=at_T70 HR0.out x9_1 p1001 q1001
     cases e1001
     replace hx1001_0:=kp_ HB hx1001_0;replace hx1001_1:=kp_ HB hx1001_1;replace p1001:=eq_true p1001;replace q1001:=eq_true q1001;go_wp2_with (first|((with_reducible refine gate_dst (N:=6) rfl ?_);refine bx_ 6 #[.string (⟨#[]⟩:ByteArray),.string (⟨#[]⟩:ByteArray)] 70 ?_;intro gb1002 hg w7 hbox hb;have BK1002:=am_ (hbox);have GW1002:=am_ (gs_ hg:w.heap.size<=gb1002);replace HB:=am_ (below_step bl_ hb);have GE1002:=GW1002;clear hb hbox hg;have hz8:=bk2_ BK1002));go_ret;exact ⟨rf_,bg_⟩
    ·rw [if_neg c6] at H;have c6b0:=nb_ c6;have c6b1:=nn_ c6;have H':=am_ H;clear H;have p1001:0<=(x9_1:Int):=od_;have q1001:x9_1<(l0.length:Int):=od_;obtain ⟨ad1001,e1001,hx1001_0,hx1001_1⟩:=at_T70 HR0.out x9_1 p1001 q1001
     cases e1001
     replace hx1001_0:=kp_ HB hx1001_0;replace hx1001_1:=kp_ HB hx1001_1;replace p1001:=eq_true p1001;replace q1001:=eq_true q1001;go_wp2_with (first|((with_reducible refine gate_dst (N:=6) rfl ?_);refine bx_ 6 #[.string (⟨#[]⟩:ByteArray),.string (⟨#[]⟩:ByteArray)] 70 ?_;intro gb1002 hg w9 hbox hb;have BK1002:=am_ (hbox);have GW1002:=am_ (gs_ hg:w.heap.size<=gb1002);replace HB:=am_ (below_step bl_ hb);have GE1002:=GW1002;clear hb hbox hg;have hz10:=bk2_ BK1002));go_roundg k1
     case measure=>have:=HK1.out;omega
     case rel=>exact ⟨(wrap64 (x9_1+1)),rs_,H',⟨by have:=HK1.out;omega⟩,⟨bg_⟩⟩
   ·rw [if_neg c3] at H;have c3b0:=decide_eq_false c3;clear c3;obtain rfl:=si_ H;go_wp2;go_ret;exact ⟨rf_,bl_⟩
def spec_l3Time.f (a0:Int):Option (Bool):=if a0>=0 then (some (decide (a0<=1000000000000))) else (some false)
theorem spec_l3Time.calls (a0:Int)(r:Bool)(w:World)(h:spec_l3Time.f a0=some r) :
  Calls Tryz.prog 36 #[.int .i64 a0] w fun e w'=>e = .returned (.bool r)/\Drawn0 w w':=by
 have H:=h;clear h;unfold spec_l3Time.f at H
 by_cases c2:a0>=0
 ·rw [if_pos c2] at H;have c2b0:decide (0<=a0)=true:=decide_eq_true c2;clear c2;obtain rfl:=si_ H;go_enter Tryz.func36,Tryz.ntmps36;go_wp2;go_ret;exact ⟨by first|rfl|(simp;done)|(simp [*];done),by repeat (first|exact Drawn0.refl _|apply Drawn0.step)⟩
 ·rw [if_neg c2] at H;have c2b0:decide (0<=a0)=false:=decide_eq_false c2;clear c2;obtain rfl:=si_ H;go_enter Tryz.func36,Tryz.ntmps36;go_wp2;go_ret;exact ⟨by first|rfl|(simp;done)|(simp [*];done),by repeat (first|exact Drawn0.refl _|apply Drawn0.step)⟩
mutual
def spec_l3Point.j0:Nat->Bool->ByteArray->List (S70)->Int->Bool->Int->Bool->List (S70)->Int->Option (Bool)
 | 0,_,_,_,_,_,_,_,_,_=>none
 | k+1,x42,x1003000,x1003001,x1003002,x1003003,x1003004,x1003005,x1003006,x1003007=>if x42=true then (some false) else (if x1003003=true then ((spec_l3Time.f x1003004).bind fun t1007=>(if t1007=true then (spec_l3Point.j1 k false x1003000 x1003001 x1003002 x1003003 x1003004 x1003005 x1003006 x1003007) else (spec_l3Point.j1 k true x1003000 x1003001 x1003002 x1003003 x1003004 x1003005 x1003006 x1003007))) else (spec_l3Point.j1 k (x1003004 != 0) x1003000 x1003001 x1003002 x1003003 x1003004 x1003005 x1003006 x1003007))
def spec_l3Point.j1:Nat->Bool->ByteArray->List (S70)->Int->Bool->Int->Bool->List (S70)->Int->Option (Bool)
 | 0,_,_,_,_,_,_,_,_,_=>none
 | k+1,x60,x1003000,x1003001,x1003002,x1003003,x1003004,x1003005,x1003006,x1003007=>if x60=true then (some false) else (if x1003005=true then (if x1003000.toList=([95,116,111,116,97,108]:List UInt8) then ((spec_GoodLabels.f k x1003006).bind fun t1008=>(if t1008=true then (some (x1003007 != (-9223372036854775808))) else (some false))) else (if x1003000.toList=([95,98,117,99,107,101,116]:List UInt8) then ((spec_GoodLabels.f k x1003006).bind fun t1009=>(if t1009=true then (some (x1003007 != (-9223372036854775808))) else (some false))) else (some false))) else (if (x1003006.length:Int)=0 then (some (x1003007==0)) else (some false)))
end
def spec_l3Point.f (k:Nat)(a0_0:ByteArray)(a0_1:Int)(a0_2:ByteArray)(l0_3:List (S46))(a1_0:ByteArray)(l1_1:List (S70))(a1_2:Int)(a1_3:Bool)(a1_4:Int)(a1_5:Bool)(l1_6:List (S70))(a1_7:Int):Option (Bool):=if a0_0.size+a1_0.size<=9223372036854775807 then ((spec_l2Name.f k (a0_0++a1_0)).bind fun t1003=>(if t1003=true then ((spec_l3Belongs.f a0_1 a1_0).bind fun t1004=>(if t1004=true then ((spec_GoodLabels.f k l1_1).bind fun t1005=>(if t1005=true then (if (l1_1.length:Int)>=20 then (spec_l3Point.j0 k true a1_0 l1_1 a1_2 a1_3 a1_4 a1_5 l1_6 a1_7) else ((spec_l2Of.f k l1_1 (⟨#[95,110,97,109,101]⟩:ByteArray)).bind fun t1006=>(if t1006.toList=([]:List UInt8) then (spec_l3Point.j0 k (a1_2==(-9223372036854775808)) a1_0 l1_1 a1_2 a1_3 a1_4 a1_5 l1_6 a1_7) else (spec_l3Point.j0 k true a1_0 l1_1 a1_2 a1_3 a1_4 a1_5 l1_6 a1_7)))) else (spec_l3Point.j0 k true a1_0 l1_1 a1_2 a1_3 a1_4 a1_5 l1_6 a1_7))) else (spec_l3Point.j0 k true a1_0 l1_1 a1_2 a1_3 a1_4 a1_5 l1_6 a1_7))) else (spec_l3Point.j0 k true a1_0 l1_1 a1_2 a1_3 a1_4 a1_5 l1_6 a1_7))) else (none)
theorem spec_l3Point.mono_l:∀ k,(∀ y0 y1 y2 y3 y4 y5 y6 y7 y8,LeO (spec_l3Point.j0 k y0 y1 y2 y3 y4 y5 y6 y7 y8) (spec_l3Point.j0 (k+1) y0 y1 y2 y3 y4 y5 y6 y7 y8))/\(∀ y0 y1 y2 y3 y4 y5 y6 y7 y8,LeO (spec_l3Point.j1 k y0 y1 y2 y3 y4 y5 y6 y7 y8) (spec_l3Point.j1 (k+1) y0 y1 y2 y3 y4 y5 y6 y7 y8))
 | 0=>⟨fun _ _ _ _ _ _ _ _ _ r h=>by simp [spec_l3Point.j0] at h,fun _ _ _ _ _ _ _ _ _ r h=>by simp [spec_l3Point.j1] at h⟩
 | k+1=>by
  obtain ⟨ih0,ih1⟩:=spec_l3Point.mono_l k
  refine ⟨?_,?_⟩
  ·intro y0 y1 y2 y3 y4 y5 y6 y7 y8
   unfold spec_l3Point.j0
   repeat' with_reducible first|apply ih0|apply ih1|apply spec_GoodLabels.mono|apply spec_l2Name.mono|apply spec_l2Of.mono|apply LeO.refl|apply LeO.none|apply LeO.ite|refine LeO.bind ?_ (fun _ => ?_)
  ·intro y0 y1 y2 y3 y4 y5 y6 y7 y8
   unfold spec_l3Point.j1
   repeat' with_reducible first|apply ih0|apply ih1|apply spec_GoodLabels.mono|apply spec_l2Name.mono|apply spec_l2Of.mono|apply LeO.refl|apply LeO.none|apply LeO.ite|refine LeO.bind ?_ (fun _ => ?_)
theorem spec_l3Point.mono:∀ a0 a1 a2 a3 a4 a5 a6 a7 a8 a9 a10 a11 k,LeO (spec_l3Point.f k a0 a1 a2 a3 a4 a5 a6 a7 a8 a9 a10 a11) (spec_l3Point.f (k+1) a0 a1 a2 a3 a4 a5 a6 a7 a8 a9 a10 a11):=by
 intro a0 a1 a2 a3 a4 a5 a6 a7 a8 a9 a10 a11 k
 obtain ⟨ih0,ih1⟩:=spec_l3Point.mono_l k
 unfold spec_l3Point.f
 repeat' with_reducible first|apply ih0|apply ih1|apply spec_GoodLabels.mono|apply spec_l2Name.mono|apply spec_l2Of.mono|apply LeO.refl|apply LeO.none|apply LeO.ite|refine LeO.bind ?_ (fun _ => ?_)
theorem spec_l3Point.calls (k:Nat)(a0_0:ByteArray)(a0_1:Int)(a0_2:ByteArray)(A0_3:Option Addr)(c0_3:Nat)(l0_3:List (S46))(a1_0:ByteArray)(A1_1:Option Addr)(c1_1:Nat)(l1_1:List (S70))(a1_2:Int)(a1_3:Bool)(a1_4:Int)(a1_5:Bool)(A1_6:Option Addr)(c1_6:Nat)(l1_6:List (S70))(a1_7:Int)(r:Bool)(w:World)(hr0_3:Kd.C k46 w A0_3 l0_3.length l0_3)(hc0_3:l0_3.length<=c0_3)(hr1_1:Kd.C k70 w A1_1 l1_1.length l1_1)(hc1_1:l1_1.length<=c1_1)(hr1_6:Kd.C k70 w A1_6 l1_6.length l1_6)(hc1_6:l1_6.length<=c1_6)(h:spec_l3Point.f k a0_0 a0_1 a0_2 l0_3 a1_0 l1_1 a1_2 a1_3 a1_4 a1_5 l1_6 a1_7=some r) :
  Calls Tryz.prog 18 #[.agg #[.string a0_0,.int .i64 a0_1,.string a0_2,.slice A0_3 l0_3.length c0_3],.agg #[.string a1_0,.slice A1_1 l1_1.length c1_1,.int .i64 a1_2,.bool a1_3,.int .i64 a1_4,.bool a1_5,.slice A1_6 l1_6.length c1_6,.int .i64 a1_7]] w fun e w'=>e = .returned (.bool r)/\Below w.heap.size w w':=by
 have hu29:=Tryz.underlying29;have hu46:=Tryz.underlying46;have HR0_3:=am_ hr0_3;have HC0_3:=am_ hc0_3;clear hr0_3 hc0_3;have HR1_1:=am_ hr1_1;have HC1_1:=am_ hc1_1;clear hr1_1 hc1_1;have HR1_6:=am_ hr1_6;have HC1_6:=am_ hc1_6;clear hr1_6 hc1_6;have HB:=am_ (Below.refl w.heap.size w);have H:=h;clear h;unfold spec_l3Point.f at H;have HC3:=am_ H;clear H;go_enter Tryz.func18,Tryz.ntmps18;go_upto_region 1 with (first|((with_reducible refine gate_dst (N:=2) rfl ?_);(try (refine gate_guard (by rfl) ?_;dsimp only));refine bx_ 2 #[.string a0_0,.int .i64 a0_1,.string a0_2,.slice A0_3 l0_3.length c0_3] 29 ?_;intro gb1001 hg w4 hbox hb;have BK1001:=am_ (hbox);have GW1001:=am_ (gs_ hg:w.heap.size<=gb1001);replace HB:=am_ (below_step bl_ hb);have GE1001:=GW1001;clear hb hbox hg)|((with_reducible refine gate_dst (N:=3) rfl ?_);(try (refine gate_guard (by rfl) ?_;dsimp only));refine bx_ 3 #[.string a1_0,.slice A1_1 l1_1.length c1_1,.int .i64 a1_2,.bool a1_3,.int .i64 a1_4,.bool a1_5,.slice A1_6 l1_6.length c1_6,.int .i64 a1_7] 46 ?_;intro gb1002 hg w5 hbox hb;have BK1002:=am_ (hbox);have GW1002:=am_ (gg_ hg:w.heap.size<=gb1002);have NB1001_1002:=nl_ BK1001 hg;have NB1002_1001:=nr_ BK1001 hg;replace BK1001:=vb_ BK1001 hb;replace HB:=am_ (below_step bg_ hb);have GE1002:=GW1002;clear hb hbox hg));(try simp only [Act.put,List.setIfInBounds_toArray,List.set_cons_zero,List.set_cons_succ])
 go_cut [42] (fun v42 wc=>∃ (kq:Nat) (x42_2:Bool),v42 = .bool x42_2/\Aside0 (spec_l3Point.j0 kq x42_2 a1_0 l1_1 a1_2 a1_3 a1_4 a1_5 l1_6 a1_7=some r)/\Aside0 (kq<=k)/\Aside0 (wc.heap[gb1001]? = some (.cells #[.string a0_0,.int .i64 a0_1,.string a0_2,(.slice A0_3 l0_3.length c0_3)] 29 (0,0)))/\Aside0 (wc.heap[gb1002]? = some (.cells #[.string a1_0,(.slice A1_1 l1_1.length c1_1),.int .i64 a1_2,.bool a1_3,.int .i64 a1_4,.bool a1_5,(.slice A1_6 l1_6.length c1_6),.int .i64 a1_7] 46 (0,0)))/\Aside0 (Below w.heap.size w wc))
 case first =>
  have H:=HC3.out;clear HC3;replace H:=is_ H;obtain ⟨c6,H⟩:=H;have c6b0:=eq_true c6;have c6b1:=decide_eq_true c6;(try have c6b2:=eq_false (Nat.not_lt.2 c6));replace H:=bs_ H;obtain ⟨t1003,A7,H⟩:=H
  by_cases c8:t1003=true
  ·subst c8;replace H:=it_ H;replace H:=bs_ H;obtain ⟨t1004,A9,H⟩:=H
   by_cases c10:t1004=true
   ·subst c10;replace H:=it_ H;replace H:=bs_ H;obtain ⟨t1005,A11,H⟩:=H
    by_cases c12:t1005=true
    ·subst c12;replace H:=it_ H
     by_cases c13:(l1_1.length:Int)>=20
     ·rw [if_pos c13] at H;have c13b0:decide (20<=(l1_1.length:Int))=true:=decide_eq_true c13;have c13b1:decide (20<=l1_1.length)=true:=decide_eq_true (by omega);clear c13;(first|rw [c13b0]|(simp only [i64_w,i32_w];rw [c13b0])|skip);have H':=am_ H;clear H;have hnb14:=NB1001_1002.out;have hnc14:=NB1002_1001.out;have hz15:=bk4_ BK1001;have hz16:=bk8_ BK1002;go_wp2_with (first|((with_reducible refine gate_callee (f:=16) rfl ?_);refine gl_ 10 Tryz.func16 #[.string (a0_0++a1_0)] ?_;(with_reducible refine (spec_l2Name.calls k (a0_0++a1_0) true _ A7.out).mono ?_);rintro e w' ⟨rfl,⟨nd,rfl⟩⟩;refine ⟨_,rfl,?_⟩)|(go_at_call 33;(with_reducible refine (spec_l3Belongs.calls a0_1 a1_0 true _ A9.out).mono ?_);rintro e w' ⟨rfl,⟨nd,rfl⟩⟩)|(go_at_call 34;(with_reducible refine (spec_GoodLabels.calls k _ _ l1_1 true _ ?side1 ?side2 A11.out).mono ?_);(case side1=>exact cc_ (Kd.C_below HR1_1.out bg_));(case side2=>exact HC1_1.out);rintro e w17 ⟨rfl,hb⟩;replace BK1001:=vb_ BK1001 hb;replace BK1002:=vb_ BK1002 hb;replace HB:=am_ (below_step bg_ hb);(try clear hb);have hz18:=bk8_ BK1002));go_meet
      case rel=>exact ⟨_,(true),rs_,H',⟨by first|omega|exact Nat.le_refl _⟩,⟨vk_ BK1001⟩,⟨vk_ BK1002⟩,⟨bg_⟩⟩
     ·rw [if_neg c13] at H;have c13b0:decide (20<=(l1_1.length:Int))=false:=decide_eq_false c13;have c13b1:decide (20<=l1_1.length)=false:=decide_eq_false (by omega);clear c13;(first|rw [c13b0]|(simp only [i64_w,i32_w];rw [c13b0])|skip);replace H:=bs_ H;obtain ⟨t1006,A19,H⟩:=H
      by_cases c20:t1006.toList=([]:List UInt8)
      ·rw [if_pos c20] at H;have c20b0:=eb_ c20;have c20b1:=en_ c20;clear c20;have H':=am_ H;clear H;have hnb21:=NB1001_1002.out;have hnc21:=NB1002_1001.out;have hz22:=bk4_ BK1001;have hz23:=bk8_ BK1002;go_wp2_with (first|((with_reducible refine gate_callee (f:=16) rfl ?_);refine gl_ 10 Tryz.func16 #[.string (a0_0++a1_0)] ?_;(with_reducible refine (spec_l2Name.calls k (a0_0++a1_0) true _ A7.out).mono ?_);rintro e w' ⟨rfl,⟨nd,rfl⟩⟩;refine ⟨_,rfl,?_⟩)|(go_at_call 33;(with_reducible refine (spec_l3Belongs.calls a0_1 a1_0 true _ A9.out).mono ?_);rintro e w' ⟨rfl,⟨nd,rfl⟩⟩)|(go_at_call 34;(with_reducible refine (spec_GoodLabels.calls k _ _ l1_1 true _ ?side1 ?side2 A11.out).mono ?_);(case side1=>exact cc_ (Kd.C_below HR1_1.out bg_));(case side2=>exact HC1_1.out);rintro e w24 ⟨rfl,hb⟩;replace BK1001:=vb_ BK1001 hb;replace BK1002:=vb_ BK1002 hb;replace HB:=am_ (below_step bg_ hb);(try clear hb);have hz25:=bk8_ BK1002)|(go_at_call 35;(with_reducible refine (spec_l2Of.calls k _ _ l1_1 (⟨#[95,110,97,109,101]⟩:ByteArray) t1006 _ ?side1 ?side2 A19.out).mono ?_);(case side1=>exact cc_ (Kd.C_below HR1_1.out HB.out));(case side2=>exact HC1_1.out);rintro e w26 ⟨rfl,hb⟩;replace BK1001:=vb_ BK1001 hb;replace BK1002:=vb_ BK1002 hb;replace HB:=am_ (below_step bg_ hb);(try clear hb);have hz27:=bk8_ BK1002));go_meet
       case rel=>exact ⟨_,((a1_2==(-9223372036854775808))),rs_,H',⟨by first|omega|exact Nat.le_refl _⟩,⟨vk_ BK1001⟩,⟨vk_ BK1002⟩,⟨bg_⟩⟩
      ·rw [if_neg c20] at H;have c20b0:=nb_ c20;have c20b1:=nn_ c20;have H':=am_ H;clear H;have hnb28:=NB1001_1002.out;have hnc28:=NB1002_1001.out;have hz29:=bk4_ BK1001;have hz30:=bk8_ BK1002;go_wp2_with (first|((with_reducible refine gate_callee (f:=16) rfl ?_);refine gl_ 10 Tryz.func16 #[.string (a0_0++a1_0)] ?_;(with_reducible refine (spec_l2Name.calls k (a0_0++a1_0) true _ A7.out).mono ?_);rintro e w' ⟨rfl,⟨nd,rfl⟩⟩;refine ⟨_,rfl,?_⟩)|(go_at_call 33;(with_reducible refine (spec_l3Belongs.calls a0_1 a1_0 true _ A9.out).mono ?_);rintro e w' ⟨rfl,⟨nd,rfl⟩⟩)|(go_at_call 34;(with_reducible refine (spec_GoodLabels.calls k _ _ l1_1 true _ ?side1 ?side2 A11.out).mono ?_);(case side1=>exact cc_ (Kd.C_below HR1_1.out bg_));(case side2=>exact HC1_1.out);rintro e w31 ⟨rfl,hb⟩;replace BK1001:=vb_ BK1001 hb;replace BK1002:=vb_ BK1002 hb;replace HB:=am_ (below_step bg_ hb);(try clear hb);have hz32:=bk8_ BK1002)|(go_at_call 35;(with_reducible refine (spec_l2Of.calls k _ _ l1_1 (⟨#[95,110,97,109,101]⟩:ByteArray) t1006 _ ?side1 ?side2 A19.out).mono ?_);(case side1=>exact cc_ (Kd.C_below HR1_1.out HB.out));(case side2=>exact HC1_1.out);rintro e w33 ⟨rfl,hb⟩;replace BK1001:=vb_ BK1001 hb;replace BK1002:=vb_ BK1002 hb;replace HB:=am_ (below_step bg_ hb);(try clear hb)));go_meet
       case rel=>exact ⟨_,(true),rs_,H',⟨by first|omega|exact Nat.le_refl _⟩,⟨vk_ BK1001⟩,⟨vk_ BK1002⟩,⟨bg_⟩⟩
    ·replace c12:=Bool.eq_false_iff.mpr c12;subst c12;replace H:=if_ H;have H':=am_ H;clear H;have hnb34:=NB1001_1002.out;have hnc34:=NB1002_1001.out;have hz35:=bk4_ BK1001;have hz36:=bk8_ BK1002;go_wp2_with (first|((with_reducible refine gate_callee (f:=16) rfl ?_);refine gl_ 10 Tryz.func16 #[.string (a0_0++a1_0)] ?_;(with_reducible refine (spec_l2Name.calls k (a0_0++a1_0) true _ A7.out).mono ?_);rintro e w' ⟨rfl,⟨nd,rfl⟩⟩;refine ⟨_,rfl,?_⟩)|(go_at_call 33;(with_reducible refine (spec_l3Belongs.calls a0_1 a1_0 true _ A9.out).mono ?_);rintro e w' ⟨rfl,⟨nd,rfl⟩⟩)|(go_at_call 34;(with_reducible refine (spec_GoodLabels.calls k _ _ l1_1 false _ ?side1 ?side2 A11.out).mono ?_);(case side1=>exact cc_ (Kd.C_below HR1_1.out bg_));(case side2=>exact HC1_1.out);rintro e w37 ⟨rfl,hb⟩;replace BK1001:=vb_ BK1001 hb;replace BK1002:=vb_ BK1002 hb;replace HB:=am_ (below_step bg_ hb);(try clear hb)));go_meet
     case rel=>exact ⟨_,(true),rs_,H',⟨by first|omega|exact Nat.le_refl _⟩,⟨vk_ BK1001⟩,⟨vk_ BK1002⟩,⟨bg_⟩⟩
   ·replace c10:=Bool.eq_false_iff.mpr c10;subst c10;replace H:=if_ H;have H':=am_ H;clear H;have hnb38:=NB1001_1002.out;have hnc38:=NB1002_1001.out;have hz39:=bk4_ BK1001;have hz40:=bk8_ BK1002;go_wp2_with (first|((with_reducible refine gate_callee (f:=16) rfl ?_);refine gl_ 10 Tryz.func16 #[.string (a0_0++a1_0)] ?_;(with_reducible refine (spec_l2Name.calls k (a0_0++a1_0) true _ A7.out).mono ?_);rintro e w' ⟨rfl,⟨nd,rfl⟩⟩;refine ⟨_,rfl,?_⟩)|(go_at_call 33;(with_reducible refine (spec_l3Belongs.calls a0_1 a1_0 false _ A9.out).mono ?_);rintro e w' ⟨rfl,⟨nd,rfl⟩⟩));go_meet
    case rel=>exact ⟨_,(true),rs_,H',⟨by first|omega|exact Nat.le_refl _⟩,⟨vk_ BK1001⟩,⟨vk_ BK1002⟩,⟨bg_⟩⟩
  ·replace c8:=Bool.eq_false_iff.mpr c8;subst c8;replace H:=if_ H;have H':=am_ H;clear H;have hnb41:=NB1001_1002.out;have hnc41:=NB1002_1001.out;have hz42:=bk4_ BK1001;have hz43:=bk8_ BK1002;go_wp2_with (first|((with_reducible refine gate_callee (f:=16) rfl ?_);refine gl_ 10 Tryz.func16 #[.string (a0_0++a1_0)] ?_;(with_reducible refine (spec_l2Name.calls k (a0_0++a1_0) false _ A7.out).mono ?_);rintro e w' ⟨rfl,⟨nd,rfl⟩⟩;refine ⟨_,rfl,?_⟩));go_meet
   case rel=>exact ⟨_,(true),rs_,H',⟨by first|omega|exact Nat.le_refl _⟩,⟨vk_ BK1001⟩,⟨vk_ BK1002⟩,⟨bg_⟩⟩
 case rest =>
  clear HC3;obtain ⟨kq,x42_2,rfl,HA,HJ2,BK1001,BK1002,HB⟩:=hcut
  cases kq with
  | zero=>exact absurd HA.out (by simp [spec_l3Point.j0])
  | succ kj2 =>
   have H:=HA.out;clear HA;simp only [spec_l3Point.j0] at H
   by_cases c44:x42_2=true
   ·subst c44;replace H:=it_ H;obtain rfl:=si_ H;go_wp2;go_ret;exact ⟨rf_,bg_⟩
   ·replace c44:=Bool.eq_false_iff.mpr c44;subst c44;replace H:=if_ H;have HC45:=am_ H;clear H;go_upto_region 3 with (fail)
    go_cut [60] (fun v60 wc=>∃ (kq:Nat) (x60_44:Bool),v60 = .bool x60_44/\Aside0 (spec_l3Point.j1 kq x60_44 a1_0 l1_1 a1_2 a1_3 a1_4 a1_5 l1_6 a1_7=some r)/\Aside0 (kq<=kj2)/\Aside0 (wc.heap[gb1001]? = some (.cells #[.string a0_0,.int .i64 a0_1,.string a0_2,(.slice A0_3 l0_3.length c0_3)] 29 (0,0)))/\Aside0 (wc.heap[gb1002]? = some (.cells #[.string a1_0,(.slice A1_1 l1_1.length c1_1),.int .i64 a1_2,.bool a1_3,.int .i64 a1_4,.bool a1_5,(.slice A1_6 l1_6.length c1_6),.int .i64 a1_7] 46 (0,0)))/\Aside0 (Below w.heap.size w wc))
    case first =>
     have H:=HC45.out;clear HC45
     by_cases c46:a1_3=true
     ·subst c46;replace H:=it_ H;replace H:=bs_ H;obtain ⟨t1007,A47,H⟩:=H
      by_cases c48:t1007=true
      ·subst c48;replace H:=it_ H;have H':=am_ H;clear H;have hnb49:=NB1002_1001.out;have hnc49:=NB1001_1002.out;have hz50:=bk8_ BK1002;go_wp2_with (first|(go_at_call 36;(with_reducible refine (spec_l3Time.calls a1_4 true _ A47.out).mono ?_);rintro e w' ⟨rfl,⟨nd,rfl⟩⟩));go_meet
       case rel=>exact ⟨_,(false),rs_,H',⟨by have:=HJ2.out;first|omega|exact Nat.le_refl _⟩,⟨vk_ BK1001⟩,⟨vk_ BK1002⟩,⟨bg_⟩⟩
      ·replace c48:=Bool.eq_false_iff.mpr c48;subst c48;replace H:=if_ H;have H':=am_ H;clear H;have hnb51:=NB1002_1001.out;have hnc51:=NB1001_1002.out;have hz52:=bk8_ BK1002;go_wp2_with (first|(go_at_call 36;(with_reducible refine (spec_l3Time.calls a1_4 false _ A47.out).mono ?_);rintro e w' ⟨rfl,⟨nd,rfl⟩⟩));go_meet
       case rel=>exact ⟨_,(true),rs_,H',⟨by have:=HJ2.out;first|omega|exact Nat.le_refl _⟩,⟨vk_ BK1001⟩,⟨vk_ BK1002⟩,⟨bg_⟩⟩
     ·replace c46:=Bool.eq_false_iff.mpr c46;subst c46;replace H:=if_ H;have H':=am_ H;clear H;have hnb53:=NB1002_1001.out;have hnc53:=NB1001_1002.out;have hz54:=bk8_ BK1002;go_wp2;go_meet
      case rel=>exact ⟨_,((a1_4 != 0)),rs_,H',⟨by have:=HJ2.out;first|omega|exact Nat.le_refl _⟩,⟨vk_ BK1001⟩,⟨vk_ BK1002⟩,⟨bg_⟩⟩
    case rest =>
     clear HC45;(try clear c44);obtain ⟨kq,x60_44,rfl,HA,HJ44,BK1001,BK1002,HB⟩:=hcut
     cases kq with
     | zero=>exact absurd HA.out (by simp [spec_l3Point.j1])
     | succ kj44 =>
      have H:=HA.out;clear HA;simp only [spec_l3Point.j1] at H
      by_cases c55:x60_44=true
      ·subst c55;replace H:=it_ H;obtain rfl:=si_ H;go_wp2;go_ret;exact ⟨rf_,bg_⟩
      ·replace c55:=Bool.eq_false_iff.mpr c55;subst c55;replace H:=if_ H
       by_cases c56:a1_5=true
       ·subst c56;replace H:=it_ H
        by_cases c57:a1_0.toList=([95,116,111,116,97,108]:List UInt8)
        ·rw [if_pos c57] at H;have c57b0:=eb_ c57;have c57b1:=en_ c57;clear c57;replace H:=bs_ H;obtain ⟨t1008,A58,H⟩:=H
         by_cases c59:t1008=true
         ·subst c59;replace H:=it_ H;obtain rfl:=si_ H;have hnb60:=NB1002_1001.out;have hnc60:=NB1001_1002.out;have hz61:=bk8_ BK1002;go_wp2_with (first|(go_at_call 34;(with_reducible refine (spec_GoodLabels.calls kj44 _ _ l1_6 true _ ?side1 ?side2 A58.out).mono ?_);(case side1=>exact cc_ (Kd.C_below HR1_6.out HB.out));(case side2=>exact HC1_6.out);rintro e w62 ⟨rfl,hb⟩;replace BK1001:=vb_ BK1001 hb;replace BK1002:=vb_ BK1002 hb;replace HB:=am_ (below_step bg_ hb);(try clear hb);have hz63:=bk8_ BK1002));go_ret;exact ⟨rf_,bg_⟩
         ·replace c59:=Bool.eq_false_iff.mpr c59;subst c59;replace H:=if_ H;obtain rfl:=si_ H;have hnb64:=NB1002_1001.out;have hnc64:=NB1001_1002.out;have hz65:=bk8_ BK1002;go_wp2_with (first|(go_at_call 34;(with_reducible refine (spec_GoodLabels.calls kj44 _ _ l1_6 false _ ?side1 ?side2 A58.out).mono ?_);(case side1=>exact cc_ (Kd.C_below HR1_6.out HB.out));(case side2=>exact HC1_6.out);rintro e w66 ⟨rfl,hb⟩;replace BK1001:=vb_ BK1001 hb;replace BK1002:=vb_ BK1002 hb;replace HB:=am_ (below_step bg_ hb);(try clear hb)));go_ret;exact ⟨rf_,bg_⟩
        ·rw [if_neg c57] at H;have c57b0:=nb_ c57;have c57b1:=nn_ c57
         by_cases c67:a1_0.toList=([95,98,117,99,107,101,116]:List UInt8)
         ·rw [if_pos c67] at H;have c67b0:=eb_ c67;have c67b1:=en_ c67;clear c67;replace H:=bs_ H;obtain ⟨t1009,A68,H⟩:=H
          by_cases c69:t1009=true
          ·subst c69;replace H:=it_ H;obtain rfl:=si_ H;have hnb70:=NB1002_1001.out;have hnc70:=NB1001_1002.out;have hz71:=bk8_ BK1002;go_wp2_with (first|(go_at_call 34;(with_reducible refine (spec_GoodLabels.calls kj44 _ _ l1_6 true _ ?side1 ?side2 A68.out).mono ?_);(case side1=>exact cc_ (Kd.C_below HR1_6.out HB.out));(case side2=>exact HC1_6.out);rintro e w72 ⟨rfl,hb⟩;replace BK1001:=vb_ BK1001 hb;replace BK1002:=vb_ BK1002 hb;replace HB:=am_ (below_step bg_ hb);(try clear hb);have hz73:=bk8_ BK1002));go_ret;exact ⟨rf_,bg_⟩
          ·replace c69:=Bool.eq_false_iff.mpr c69;subst c69;replace H:=if_ H;obtain rfl:=si_ H;have hnb74:=NB1002_1001.out;have hnc74:=NB1001_1002.out;have hz75:=bk8_ BK1002;go_wp2_with (first|(go_at_call 34;(with_reducible refine (spec_GoodLabels.calls kj44 _ _ l1_6 false _ ?side1 ?side2 A68.out).mono ?_);(case side1=>exact cc_ (Kd.C_below HR1_6.out HB.out));(case side2=>exact HC1_6.out);rintro e w76 ⟨rfl,hb⟩;replace BK1001:=vb_ BK1001 hb;replace BK1002:=vb_ BK1002 hb;replace HB:=am_ (below_step bg_ hb);(try clear hb)));go_ret;exact ⟨rf_,bg_⟩
         ·rw [if_neg c67] at H;have c67b0:=nb_ c67;have c67b1:=nn_ c67;obtain rfl:=si_ H;have hnb77:=NB1002_1001.out;have hnc77:=NB1001_1002.out;have hz78:=bk8_ BK1002;go_wp2;go_ret;exact ⟨rf_,bg_⟩
       ·replace c56:=Bool.eq_false_iff.mpr c56;subst c56;replace H:=if_ H
        by_cases c79:(l1_6.length:Int)=0
        ·rw [if_pos c79] at H;have c79b0:=eb_ c79;have c79b1:=en_ c79;clear c79;obtain rfl:=si_ H;have hnb80:=NB1002_1001.out;have hnc80:=NB1001_1002.out;have hz81:=bk8_ BK1002;go_wp2;go_ret;exact ⟨rf_,bg_⟩
        ·rw [if_neg c79] at H;have c79b0:=nb_ c79;have c79b1:=nn_ c79;have c79b2:¬ (l1_6=[]):=fun h_=>c79 (by rw [h_];rfl)
         obtain rfl:=si_ H;have hnb82:=NB1002_1001.out;have hnc82:=NB1001_1002.out;have hz83:=bk8_ BK1002;go_wp2;go_ret;exact ⟨rf_,bg_⟩
mutual
def spec_l2Cmp.l0:Nat->List (S70)->List (S70)->Int->Option (Int)
 | 0,_,_,_=>none
 | k+1,x0,x1,x5=>if x5<(x0.length:Int) then (spec_l2Cmp.j1 k x0 x1 x5 (decide (x5<(x1.length:Int)))) else (spec_l2Cmp.j1 k x0 x1 x5 false)
def spec_l2Cmp.j1:Nat->List (S70)->List (S70)->Int->Bool->Option (Int)
 | 0,_,_,_,_=>none
 | k+1,x0,x1,x5,x17=>if x17=true then (if 0<=x5 then (if x5<(x0.length:Int) then (if x5<(x1.length:Int) then ((spec_l2CmpText.f k ((rd_T70 x0 x5).f0) ((rd_T70 x1 x5).f0)).bind fun t1004=>(if t1004=0 then ((spec_l2CmpText.f k ((rd_T70 x0 x5).f1) ((rd_T70 x1 x5).f1)).bind fun t1007=>(if t1007=0 then (spec_l2Cmp.l0 k x0 x1 (wrap64 (x5+1))) else (some t1007))) else (some t1004))) else (none)) else (none)) else (none)) else ((spec_l2CmpNum.f (x0.length:Int) (x1.length:Int)).bind fun t1001=>(some t1001))
end
def spec_l2Cmp.f (k:Nat)(l0:List (S70))(l1:List (S70)):Option (Int):=spec_l2Cmp.l0 k l0 l1 0
theorem spec_l2Cmp.mono_l:∀ k,(∀ y0 y1 y2,LeO (spec_l2Cmp.l0 k y0 y1 y2) (spec_l2Cmp.l0 (k+1) y0 y1 y2))/\(∀ y0 y1 y2 y3,LeO (spec_l2Cmp.j1 k y0 y1 y2 y3) (spec_l2Cmp.j1 (k+1) y0 y1 y2 y3))
 | 0=>⟨fun _ _ _ r h=>by simp [spec_l2Cmp.l0] at h,fun _ _ _ _ r h=>by simp [spec_l2Cmp.j1] at h⟩
 | k+1=>by
  obtain ⟨ih0,ih1⟩:=spec_l2Cmp.mono_l k
  refine ⟨?_,?_⟩
  ·intro y0 y1 y2
   unfold spec_l2Cmp.l0
   repeat' with_reducible first|apply ih0|apply ih1|apply spec_l2CmpText.mono|apply LeO.refl|apply LeO.none|apply LeO.ite|refine LeO.bind ?_ (fun _ => ?_)
  ·intro y0 y1 y2 y3
   unfold spec_l2Cmp.j1
   repeat' with_reducible first|apply ih0|apply ih1|apply spec_l2CmpText.mono|apply LeO.refl|apply LeO.none|apply LeO.ite|refine LeO.bind ?_ (fun _ => ?_)
theorem spec_l2Cmp.mono:∀ a0 a1 k,LeO (spec_l2Cmp.f k a0 a1) (spec_l2Cmp.f (k+1) a0 a1):=by
 intro a0 a1 k
 obtain ⟨ih0,ih1⟩:=spec_l2Cmp.mono_l k
 unfold spec_l2Cmp.f
 repeat' with_reducible first|apply ih0|apply ih1|apply spec_l2CmpText.mono|apply LeO.refl|apply LeO.none|apply LeO.ite|refine LeO.bind ?_ (fun _ => ?_)
theorem spec_l2Cmp.calls (k:Nat)(A0:Option Addr)(c0:Nat)(l0:List (S70))(A1:Option Addr)(c1:Nat)(l1:List (S70))(r:Int)(w:World)(hr0:Kd.C k70 w A0 l0.length l0)(hc0:l0.length<=c0)(hr1:Kd.C k70 w A1 l1.length l1)(hc1:l1.length<=c1)(h:spec_l2Cmp.f k l0 l1=some r) :
  Calls Tryz.prog 19 #[.slice A0 l0.length c0,.slice A1 l1.length c1] w fun e w'=>e = .returned (.int .i64 r)/\Drawn0 w w':=by
 have HR0:=am_ hr0;have HC0:=am_ hc0;clear hr0 hc0;have HR1:=am_ hr1;have HC1:=am_ hc1;clear hr1 hc1;have H:=h;clear h;unfold spec_l2Cmp.f at H;have H':=am_ H;clear H;go_enter Tryz.func19,Tryz.ntmps19;go_wp2;(repeat (go_quiet (fail);try go_wp2))
 go_loopg [5] k (fun kq v5 w'=>∃ (x5_1:Int),v5 = .int .i64 x5_1/\Aside0 (spec_l2Cmp.l0 kq l0 l1 x5_1=some r)/\Aside0 (kq<=k)/\Drawn0 w w')
 case atStart=>exact ⟨(0),rs_,H',⟨Nat.le_refl _⟩,by repeat (first|exact Drawn0.refl _|apply Drawn0.step)⟩
 case round =>
  clear H';obtain ⟨x5_1,rfl,HA,HK1,⟨m1,rfl⟩⟩:=hrel
  cases gk with
  | zero=>exact absurd HA.out (by simp [spec_l2Cmp.l0])
  | succ k1 =>
   have H:=HA.out;clear HA;simp only [spec_l2Cmp.l0] at H;have HC3:=am_ H;clear H;go_upto_region 2 with (fail);(repeat (go_quiet (fail);go_upto_region 2 with (fail)))
   go_cut [17] (fun v17 wc=>∃ (kq:Nat) (x17_2:Bool),v17 = .bool x17_2/\Aside0 (spec_l2Cmp.j1 kq l0 l1 x5_1 x17_2=some r)/\Aside0 (kq<=k1)/\Drawn0 w wc)
   case first =>
    have H:=HC3.out;clear HC3
    by_cases c4:x5_1<(l0.length:Int)
    ·rw [if_pos c4] at H;have c4b0:=decide_eq_true c4;clear c4;(first|rw [c4b0]|(simp only [i64_w,i32_w];rw [c4b0])|skip);have H':=am_ H;clear H;go_wp2;(repeat (go_quiet (fail);try go_wp2));go_meet
     case rel=>exact ⟨_,(decide (x5_1<(l1.length:Int))),rs_,H',⟨by have:=HK1.out;first|omega|exact Nat.le_refl _⟩,by repeat (first|exact Drawn0.refl _|apply Drawn0.step)⟩
    ·rw [if_neg c4] at H;have c4b0:=decide_eq_false c4;clear c4;(first|rw [c4b0]|(simp only [i64_w,i32_w];rw [c4b0])|skip);have H':=am_ H;clear H;go_wp2;(repeat (go_quiet (fail);try go_wp2));go_meet
     case rel=>exact ⟨_,(false),rs_,H',⟨by have:=HK1.out;first|omega|exact Nat.le_refl _⟩,by repeat (first|exact Drawn0.refl _|apply Drawn0.step)⟩
   case rest =>
    clear HC3;obtain ⟨kq,x17_2,rfl,HA,HJ2,⟨mc2,rfl⟩⟩:=hcut
    cases kq with
    | zero=>exact absurd HA.out (by simp [spec_l2Cmp.j1])
    | succ kj2 =>
     have H:=HA.out;clear HA;simp only [spec_l2Cmp.j1] at H
     by_cases c5:x17_2=true
     ·subst c5;replace H:=it_ H;replace H:=is_ H;obtain ⟨c6,H⟩:=H;have c6b0:=decide_eq_true c6;clear c6;replace H:=is_ H;obtain ⟨c7,H⟩:=H;have c7b0:=decide_eq_true c7;clear c7;replace H:=is_ H;obtain ⟨c8,H⟩:=H;have c8b0:=decide_eq_true c8;clear c8;replace H:=bs_ H;obtain ⟨t1004,A9,H⟩:=H
      by_cases c10:t1004=0
      ·rw [if_pos c10] at H;have c10b0:=eb_ c10;have c10b1:=en_ c10;clear c10;replace H:=bs_ H;obtain ⟨t1007,A11,H⟩:=H
       by_cases c12:t1007=0
       ·rw [if_pos c12] at H;have c12b0:=eb_ c12;have c12b1:=en_ c12;clear c12;have H':=am_ H;clear H;have p1002:0<=(x5_1:Int):=od_;have q1002:x5_1<(l0.length:Int):=od_;obtain ⟨ad1002,e1002,hx1002_0,hx1002_1⟩:=at_T70 HR0.out x5_1 p1002 q1002
        cases e1002
        replace p1002:=eq_true p1002;replace q1002:=eq_true q1002;have p1003:0<=(x5_1:Int):=od_;have q1003:x5_1<(l1.length:Int):=od_;obtain ⟨ad1003,e1003,hx1003_0,hx1003_1⟩:=at_T70 HR1.out x5_1 p1003 q1003
        cases e1003
        replace p1003:=eq_true p1003;replace q1003:=eq_true q1003;go_wp2_with (first|(go_at_call 28;(with_reducible refine (spec_l2CmpText.calls kj2 ((rd_T70 l0 x5_1).f0) ((rd_T70 l1 x5_1).f0) t1004 _ A9.out).mono ?_);rintro e w' ⟨rfl,⟨nd,rfl⟩⟩;(try exact dd_);have p1005:0<=(x5_1:Int):=od_;have q1005:x5_1<(l0.length:Int):=od_;obtain ⟨ad1005,e1005,hx1005_0,hx1005_1⟩:=at_T70 HR0.out x5_1 p1005 q1005;obtain rfl:ad1002=ad1005:=(by injection e1005);replace p1005:=eq_true p1005;replace q1005:=eq_true q1005;have p1006:0<=(x5_1:Int):=od_;have q1006:x5_1<(l1.length:Int):=od_;obtain ⟨ad1006,e1006,hx1006_0,hx1006_1⟩:=at_T70 HR1.out x5_1 p1006 q1006;obtain rfl:ad1003=ad1006:=(by injection e1006);replace p1006:=eq_true p1006;replace q1006:=eq_true q1006)|(go_at_call 28;(with_reducible refine (spec_l2CmpText.calls kj2 ((rd_T70 l0 x5_1).f1) ((rd_T70 l1 x5_1).f1) t1007 _ A11.out).mono ?_);rintro e w' ⟨rfl,⟨nd,rfl⟩⟩;(try exact dd_)));(repeat (go_quiet (first|(go_at_call 28;(with_reducible refine (spec_l2CmpText.calls kj2 ((rd_T70 l0 x5_1).f0) ((rd_T70 l1 x5_1).f0) t1004 _ A9.out).mono ?_);rintro e w' ⟨rfl,⟨nd,rfl⟩⟩;(try exact dd_);have p1005:0<=(x5_1:Int):=od_;have q1005:x5_1<(l0.length:Int):=od_;obtain ⟨ad1005,e1005,hx1005_0,hx1005_1⟩:=at_T70 HR0.out x5_1 p1005 q1005;obtain rfl:ad1002=ad1005:=(by injection e1005);replace p1005:=eq_true p1005;replace q1005:=eq_true q1005;have p1006:0<=(x5_1:Int):=od_;have q1006:x5_1<(l1.length:Int):=od_;obtain ⟨ad1006,e1006,hx1006_0,hx1006_1⟩:=at_T70 HR1.out x5_1 p1006 q1006;obtain rfl:ad1003=ad1006:=(by injection e1006);replace p1006:=eq_true p1006;replace q1006:=eq_true q1006)|(go_at_call 28;(with_reducible refine (spec_l2CmpText.calls kj2 ((rd_T70 l0 x5_1).f1) ((rd_T70 l1 x5_1).f1) t1007 _ A11.out).mono ?_);rintro e w' ⟨rfl,⟨nd,rfl⟩⟩;(try exact dd_)));try go_wp2));go_roundg kj2
        case measure=>have:=HK1.out;have:=HJ2.out;omega
        case rel=>exact ⟨(wrap64 (x5_1+1)),rs_,H',⟨by have:=HK1.out;have:=HJ2.out;omega⟩,by repeat (first|exact Drawn0.refl _|apply Drawn0.step)⟩
       ·rw [if_neg c12] at H;have c12b0:=nb_ c12;have c12b1:=nn_ c12;obtain rfl:=si_ H;have p1002:0<=(x5_1:Int):=od_;have q1002:x5_1<(l0.length:Int):=od_;obtain ⟨ad1002,e1002,hx1002_0,hx1002_1⟩:=at_T70 HR0.out x5_1 p1002 q1002
        cases e1002
        replace p1002:=eq_true p1002;replace q1002:=eq_true q1002;have p1003:0<=(x5_1:Int):=od_;have q1003:x5_1<(l1.length:Int):=od_;obtain ⟨ad1003,e1003,hx1003_0,hx1003_1⟩:=at_T70 HR1.out x5_1 p1003 q1003
        cases e1003
        replace p1003:=eq_true p1003;replace q1003:=eq_true q1003;go_wp2_with (first|(go_at_call 28;(with_reducible refine (spec_l2CmpText.calls kj2 ((rd_T70 l0 x5_1).f0) ((rd_T70 l1 x5_1).f0) t1004 _ A9.out).mono ?_);rintro e w' ⟨rfl,⟨nd,rfl⟩⟩;(try exact dd_);have p1005:0<=(x5_1:Int):=od_;have q1005:x5_1<(l0.length:Int):=od_;obtain ⟨ad1005,e1005,hx1005_0,hx1005_1⟩:=at_T70 HR0.out x5_1 p1005 q1005;obtain rfl:ad1002=ad1005:=(by injection e1005);replace p1005:=eq_true p1005;replace q1005:=eq_true q1005;have p1006:0<=(x5_1:Int):=od_;have q1006:x5_1<(l1.length:Int):=od_;obtain ⟨ad1006,e1006,hx1006_0,hx1006_1⟩:=at_T70 HR1.out x5_1 p1006 q1006;obtain rfl:ad1003=ad1006:=(by injection e1006);replace p1006:=eq_true p1006;replace q1006:=eq_true q1006)|(go_at_call 28;(with_reducible refine (spec_l2CmpText.calls kj2 ((rd_T70 l0 x5_1).f1) ((rd_T70 l1 x5_1).f1) t1007 _ A11.out).mono ?_);rintro e w' ⟨rfl,⟨nd,rfl⟩⟩;(try exact dd_)));(repeat (go_quiet (first|(go_at_call 28;(with_reducible refine (spec_l2CmpText.calls kj2 ((rd_T70 l0 x5_1).f0) ((rd_T70 l1 x5_1).f0) t1004 _ A9.out).mono ?_);rintro e w' ⟨rfl,⟨nd,rfl⟩⟩;(try exact dd_);have p1005:0<=(x5_1:Int):=od_;have q1005:x5_1<(l0.length:Int):=od_;obtain ⟨ad1005,e1005,hx1005_0,hx1005_1⟩:=at_T70 HR0.out x5_1 p1005 q1005;obtain rfl:ad1002=ad1005:=(by injection e1005);replace p1005:=eq_true p1005;replace q1005:=eq_true q1005;have p1006:0<=(x5_1:Int):=od_;have q1006:x5_1<(l1.length:Int):=od_;obtain ⟨ad1006,e1006,hx1006_0,hx1006_1⟩:=at_T70 HR1.out x5_1 p1006 q1006;obtain rfl:ad1003=ad1006:=(by injection e1006);replace p1006:=eq_true p1006;replace q1006:=eq_true q1006)|(go_at_call 28;(with_reducible refine (spec_l2CmpText.calls kj2 ((rd_T70 l0 x5_1).f1) ((rd_T70 l1 x5_1).f1) t1007 _ A11.out).mono ?_);rintro e w' ⟨rfl,⟨nd,rfl⟩⟩;(try exact dd_)));try go_wp2));go_ret;exact ⟨by first|rfl|(simp;done)|(simp [*];done),by repeat (first|exact Drawn0.refl _|apply Drawn0.step)⟩
      ·rw [if_neg c10] at H;have c10b0:=nb_ c10;have c10b1:=nn_ c10;obtain rfl:=si_ H;have p1002:0<=(x5_1:Int):=od_;have q1002:x5_1<(l0.length:Int):=od_;obtain ⟨ad1002,e1002,hx1002_0,hx1002_1⟩:=at_T70 HR0.out x5_1 p1002 q1002
       cases e1002
       replace p1002:=eq_true p1002;replace q1002:=eq_true q1002;have p1003:0<=(x5_1:Int):=od_;have q1003:x5_1<(l1.length:Int):=od_;obtain ⟨ad1003,e1003,hx1003_0,hx1003_1⟩:=at_T70 HR1.out x5_1 p1003 q1003
       cases e1003
       replace p1003:=eq_true p1003;replace q1003:=eq_true q1003;go_wp2_with (first|(go_at_call 28;(with_reducible refine (spec_l2CmpText.calls kj2 ((rd_T70 l0 x5_1).f0) ((rd_T70 l1 x5_1).f0) t1004 _ A9.out).mono ?_);rintro e w' ⟨rfl,⟨nd,rfl⟩⟩;(try exact dd_)));(repeat (go_quiet (first|(go_at_call 28;(with_reducible refine (spec_l2CmpText.calls kj2 ((rd_T70 l0 x5_1).f0) ((rd_T70 l1 x5_1).f0) t1004 _ A9.out).mono ?_);rintro e w' ⟨rfl,⟨nd,rfl⟩⟩;(try exact dd_)));try go_wp2));go_ret;exact ⟨by first|rfl|(simp;done)|(simp [*];done),by repeat (first|exact Drawn0.refl _|apply Drawn0.step)⟩
     ·replace c5:=Bool.eq_false_iff.mpr c5;subst c5;replace H:=if_ H;replace H:=bs_ H;obtain ⟨t1001,A13,H⟩:=H;obtain rfl:=si_ H;go_wp2_with (first|(go_at_call 37;(with_reducible refine (spec_l2CmpNum.calls (l0.length:Int) (l1.length:Int) t1001 _ A13.out).mono ?_);rintro e w' ⟨rfl,⟨nd,rfl⟩⟩;(try exact dd_)));(repeat (go_quiet (first|(go_at_call 37;(with_reducible refine (spec_l2CmpNum.calls (l0.length:Int) (l1.length:Int) t1001 _ A13.out).mono ?_);rintro e w' ⟨rfl,⟨nd,rfl⟩⟩;(try exact dd_)));try go_wp2));go_ret;exact ⟨by first|rfl|(simp;done)|(simp [*];done),by repeat (first|exact Drawn0.refl _|apply Drawn0.step)⟩
mutual
def spec_l2With.l0:Nat->ByteArray->ByteArray->List (S70)->Bool->List (S70)->Int->Int->Option ((List (S70)))
 | 0,_,_,_,_,_,_,_=>none
 | k+1,x1,x2,x7,x8,x13,x14,x15=>if x15<x14 then (if 0<=x15 then (if x15<(x13.length:Int) then (if x8=true then (spec_l2With.j1 k x1 x2 x7 x8 x13 x14 x15 false ((rd_T70 x13 x15).f0) ((rd_T70 x13 x15).f1)) else ((spec_l2CmpText.f k x1 ((rd_T70 x13 x15).f0)).bind fun t1006=>(spec_l2With.j1 k x1 x2 x7 x8 x13 x14 x15 (decide (t1006<=0)) ((rd_T70 x13 x15).f0) ((rd_T70 x13 x15).f1)))) else (none)) else (none)) else (if x8=true then (some x7) else (if x7.length<4398046511104 then (some (x7++[(⟨x1,x2⟩:S70)])) else (none)))
def spec_l2With.j1:Nat->ByteArray->ByteArray->List (S70)->Bool->List (S70)->Int->Int->Bool->ByteArray->ByteArray->Option ((List (S70)))
 | 0,_,_,_,_,_,_,_,_,_,_=>none
 | k+1,x1,x2,x7,x8,x13,x14,x15,x27,x1006000,x1006001=>if x27=true then (if x7.length<4398046511104 then ((some (x7++[(⟨x1,x2⟩:S70)]:List (S70))).bind fun y1007=>(if x1006000.toList=x1.toList then (spec_l2With.l0 k x1 x2 y1007 true x13 x14 (wrap64 (x15+1))) else (if y1007.length<4398046511104 then (spec_l2With.l0 k x1 x2 (y1007++[(⟨x1006000,x1006001⟩:S70)]) true x13 x14 (wrap64 (x15+1))) else (none)))) else (none)) else (if x1006000.toList=x1.toList then (spec_l2With.l0 k x1 x2 x7 x8 x13 x14 (wrap64 (x15+1))) else (if x7.length<4398046511104 then (spec_l2With.l0 k x1 x2 (x7++[(⟨x1006000,x1006001⟩:S70)]) x8 x13 x14 (wrap64 (x15+1))) else (none)))
end
def spec_l2With.f (k:Nat)(l0:List (S70))(a1:ByteArray)(a2:ByteArray):Option ((List (S70))):=spec_l2With.l0 k a1 a2 ([]:List (S70)) (a2.toList==([]:List UInt8)) l0 (l0.length:Int) 0
theorem spec_l2With.mono_l:∀ k,(∀ y0 y1 y2 y3 y4 y5 y6,LeO (spec_l2With.l0 k y0 y1 y2 y3 y4 y5 y6) (spec_l2With.l0 (k+1) y0 y1 y2 y3 y4 y5 y6))/\(∀ y0 y1 y2 y3 y4 y5 y6 y7 y8 y9,LeO (spec_l2With.j1 k y0 y1 y2 y3 y4 y5 y6 y7 y8 y9) (spec_l2With.j1 (k+1) y0 y1 y2 y3 y4 y5 y6 y7 y8 y9))
 | 0=>⟨fun _ _ _ _ _ _ _ r h=>by simp [spec_l2With.l0] at h,fun _ _ _ _ _ _ _ _ _ _ r h=>by simp [spec_l2With.j1] at h⟩
 | k+1=>by
  obtain ⟨ih0,ih1⟩:=spec_l2With.mono_l k
  refine ⟨?_,?_⟩
  ·intro y0 y1 y2 y3 y4 y5 y6
   unfold spec_l2With.l0
   repeat' with_reducible first|apply ih0|apply ih1|apply spec_l2CmpText.mono|apply LeO.refl|apply LeO.none|apply LeO.ite|refine LeO.bind ?_ (fun _ => ?_)
  ·intro y0 y1 y2 y3 y4 y5 y6 y7 y8 y9
   unfold spec_l2With.j1
   repeat' with_reducible first|apply ih0|apply ih1|apply spec_l2CmpText.mono|apply LeO.refl|apply LeO.none|apply LeO.ite|refine LeO.bind ?_ (fun _ => ?_)
theorem spec_l2With.mono:∀ a0 a1 a2 k,LeO (spec_l2With.f k a0 a1 a2) (spec_l2With.f (k+1) a0 a1 a2):=by
 intro a0 a1 a2 k
 obtain ⟨ih0,ih1⟩:=spec_l2With.mono_l k
 unfold spec_l2With.f
 repeat' with_reducible first|apply ih0|apply ih1|apply spec_l2CmpText.mono|apply LeO.refl|apply LeO.none|apply LeO.ite|refine LeO.bind ?_ (fun _ => ?_)
theorem spec_l2With.calls (k:Nat)(A0:Option Addr)(c0:Nat)(l0:List (S70))(a1:ByteArray)(a2:ByteArray)(r:List (S70))(w:World)(hr0:Kd.C k70 w A0 l0.length l0)(hc0:l0.length<=c0)(h:spec_l2With.f k l0 a1 a2=some r) :
  Calls Tryz.prog 57 #[.slice A0 l0.length c0,.string a1,.string a2] w fun e w'=>∃ v0_:Value,e = .returned (v0_)/\Kd.R k70 70 w' w.heap.size (fun _=>True) v0_ r/\Below w.heap.size w w':=by
 have hu70:=Tryz.underlying70;have HR0:=am_ hr0;have HC0:=am_ hc0;clear hr0 hc0;have HB:=am_ (Below.refl w.heap.size w);have H:=h;clear h;unfold spec_l2With.f at H;have H':=am_ H;clear H;go_enter Tryz.func57,Tryz.ntmps57;go_wp2
 go_loopg [7,8,15] k (fun kq v7 v8 v15 w'=>∃ (x7_1:List (S70)) (x8_1:Bool) (x15_1:Int),v8 = .bool x8_1/\v15 = .int .i64 x15_1/\Aside0 (spec_l2With.l0 kq a1 a2 x7_1 x8_1 l0 (l0.length:Int) x15_1=some r)/\Aside0 (kq<=k)/\Aside0 (Kd.R k70 70 w' w.heap.size (fun _=>True) v7 x7_1)/\Aside0 (Below w.heap.size w w'))
 case atStart=>exact ⟨(([]:List (S70))),((a2.toList==([]:List UInt8))),(0),rs_,rs_,H',⟨Nat.le_refl _⟩,⟨ni_⟩,⟨bl_⟩⟩
 case round =>
  clear H';obtain ⟨x7_1,x8_1,x15_1,rfl,rfl,HA,HK1,HO_7,HB⟩:=hrel
  cases gk with
  | zero=>exact absurd HA.out (by simp [spec_l2With.l0])
  | succ k1 =>
   have H:=HA.out;clear HA;simp only [spec_l2With.l0] at H
   by_cases c4:x15_1<(l0.length:Int)
   ·rw [if_pos c4] at H;have c4b0:=decide_eq_true c4;clear c4;replace H:=is_ H;obtain ⟨c5,H⟩:=H;have c5b0:=decide_eq_true c5;clear c5;replace H:=is_ H;obtain ⟨c6,H⟩:=H;have c6b0:=decide_eq_true c6;clear c6;have HC7:=am_ H;clear H;have p1004:0<=(x15_1:Int):=od_;have q1004:x15_1<(l0.length:Int):=od_;obtain ⟨ad1004,e1004,hx1004_0,hx1004_1⟩:=at_T70 HR0.out x15_1 p1004 q1004
    cases e1004
    replace hx1004_0:=kp_ HB hx1004_0;replace hx1004_1:=kp_ HB hx1004_1;replace p1004:=eq_true p1004;replace q1004:=eq_true q1004;go_upto_region 6 with (first|((with_reducible refine gate_dst (N:=10) rfl ?_);refine bx_ 10 #[.string (⟨#[]⟩:ByteArray),.string (⟨#[]⟩:ByteArray)] 70 ?_;intro gb1005 hg w8 hbox hb;have BK1005:=am_ (hbox);have GW1005:=am_ (gs_ hg:w.heap.size<=gb1005);replace HO_7:=am_ (Kd.R_below (Kd.R_elderB (ro_ HO_7) gb1005 (Nat.le_of_eq hg.symm)) hb);replace HB:=am_ (below_step bl_ hb);have GE1005:=GW1005;clear hb hbox hg;have hz9:=bk2_ BK1005));(try simp only [Act.put,List.setIfInBounds_toArray,List.set_cons_zero,List.set_cons_succ])
    go_cut [27] (fun v27 wc=>∃ (kq:Nat) (x27_6:Bool),v27 = .bool x27_6/\Aside0 (spec_l2With.j1 kq a1 a2 x7_1 x8_1 l0 (l0.length:Int) x15_1 x27_6 ((rd_T70 l0 x15_1).f0) ((rd_T70 l0 x15_1).f1)=some r)/\Aside0 (kq<=k1)/\Aside0 (Kd.R k70 70 wc w.heap.size (fun k_=>k_≠gb1005) u7 x7_1)/\Aside0 (wc.heap[gb1005]? = some (.cells #[.string ((rd_T70 l0 x15_1).f0),.string ((rd_T70 l0 x15_1).f1)] 70 (0,0)))/\Aside0 (Below w.heap.size w wc))
    case first =>
     have H:=HC7.out;clear HC7
     by_cases c10:x8_1=true
     ·subst c10;replace H:=it_ H;have H':=am_ H;clear H;go_wp2;go_meet
      case rel=>exact ⟨_,(false),rs_,H',⟨by have:=HK1.out;first|omega|exact Nat.le_refl _⟩,⟨by (with_reducible repeat (first|apply Kd.R_alloc|apply Kd.R_drewN|apply Kd.R_drew));exact Kd.R_mono (Kd.R_far (p:=⟨gb1005,1,none⟩) (Kd.R_far (p:=⟨gb1005,0,none⟩) (Kd.R_mono HO_7.out (fun k_ hk=>(⟨hk,hk.2⟩:_/\k_≠gb1005))) (fun _ hk=>hk.2) (.string ((rd_T70 l0 x15_1).f0))) (fun _ hk=>hk.2) (.string ((rd_T70 l0 x15_1).f1))) (fun _ hk=>hk.1.2)⟩,⟨by (with_reducible repeat (first|refine blk_drewN ?_ _|refine blk_drew ?_|refine blk_alloc ?_ _));refine blk_put (cs:=#[.string ((rd_T70 l0 x15_1).f0),.string (⟨#[]⟩:ByteArray)]) ?_ 1 _ rfl;(with_reducible repeat (first|refine blk_drewN ?_ _|refine blk_drew ?_|refine blk_alloc ?_ _));refine blk_put (cs:=#[.string (⟨#[]⟩:ByteArray),.string (⟨#[]⟩:ByteArray)]) ?_ 0 _ rfl;(with_reducible repeat (first|refine blk_drewN ?_ _|refine blk_drew ?_|refine blk_alloc ?_ _));exact BK1005.out⟩,⟨bg_⟩⟩
     ·replace c10:=Bool.eq_false_iff.mpr c10;subst c10;replace H:=if_ H;replace H:=bs_ H;obtain ⟨t1006,A11,H⟩:=H;have H':=am_ H;clear H;have hz12:=bk2_ BK1005;go_wp2_with (first|(go_at_call 28;(with_reducible refine (spec_l2CmpText.calls k1 a1 ((rd_T70 l0 x15_1).f0) t1006 _ A11.out).mono ?_);rintro e w' ⟨rfl,⟨nd,rfl⟩⟩));go_meet
      case rel=>exact ⟨_,(decide (t1006<=0)),rs_,H',⟨by have:=HK1.out;first|omega|exact Nat.le_refl _⟩,⟨by (with_reducible repeat (first|apply Kd.R_alloc|apply Kd.R_drewN|apply Kd.R_drew));exact Kd.R_mono (Kd.R_far (p:=⟨gb1005,1,none⟩) (Kd.R_far (p:=⟨gb1005,0,none⟩) (Kd.R_mono HO_7.out (fun k_ hk=>(⟨hk,hk.2⟩:_/\k_≠gb1005))) (fun _ hk=>hk.2) (.string ((rd_T70 l0 x15_1).f0))) (fun _ hk=>hk.2) (.string ((rd_T70 l0 x15_1).f1))) (fun _ hk=>hk.1.2)⟩,⟨by (with_reducible repeat (first|refine blk_drewN ?_ _|refine blk_drew ?_|refine blk_alloc ?_ _));refine blk_put (cs:=#[.string ((rd_T70 l0 x15_1).f0),.string (⟨#[]⟩:ByteArray)]) ?_ 1 _ rfl;(with_reducible repeat (first|refine blk_drewN ?_ _|refine blk_drew ?_|refine blk_alloc ?_ _));refine blk_put (cs:=#[.string (⟨#[]⟩:ByteArray),.string (⟨#[]⟩:ByteArray)]) ?_ 0 _ rfl;(with_reducible repeat (first|refine blk_drewN ?_ _|refine blk_drew ?_|refine blk_alloc ?_ _));exact BK1005.out⟩,⟨bg_⟩⟩
    case rest =>
     clear HC7;(try clear c4);(try clear c4b0);(try clear c5);(try clear c5b0);(try clear c6);(try clear c6b0);(try clear hz9);(try clear hx1004_0);(try clear hx1004_1);(try clear p1004);(try clear q1004);obtain ⟨kq,x27_6,rfl,HA,HJ6,HO_7,BK1005,HB⟩:=hcut
     cases kq with
     | zero=>exact absurd HA.out (by simp [spec_l2With.j1])
     | succ kj6 =>
      have H:=HA.out;clear HA;simp only [spec_l2With.j1] at H
      by_cases c13:x27_6=true
      ·subst c13;replace H:=it_ H;replace H:=is_ H;obtain ⟨c14,H⟩:=H;have LMc14:=am_ c14;clear c14;obtain ⟨y1007,hy1007⟩:∃ y_:List (S70),y_=(x7_1++[(⟨a1,a2⟩:S70)]):=⟨_,rfl⟩;replace H:(if ((rd_T70 l0 x15_1).f0).toList=a1.toList then (spec_l2With.l0 kj6 a1 a2 y1007 true l0 (l0.length:Int) (wrap64 (x15_1+1))) else (if y1007.length<4398046511104 then (spec_l2With.l0 kj6 a1 a2 (y1007++[(⟨((rd_T70 l0 x15_1).f0),((rd_T70 l0 x15_1).f1)⟩:S70)]) true l0 (l0.length:Int) (wrap64 (x15_1+1))) else (none)))=some r:=by first|(rw [hy1007];with_reducible exact H)|(have H2_:=(Option.bind_some _ _).symm.trans H;rw [hy1007];with_reducible exact H2_)|(have H2_:=(Option.bind_some _ _).symm.trans H;with_reducible exact H2_)|with_reducible exact H|(rw [hy1007];exact H)|exact H
       have Ny1007:=am_ hy1007;clear hy1007
       by_cases c15:((rd_T70 l0 x15_1).f0).toList=a1.toList
       ·rw [if_pos c15] at H;have c15b0:=eb_ c15;have c15b1:=en_ c15;clear c15;have H':=am_ H;clear H;go_wp2_with (first|((with_reducible refine gate_builtin (b:=.append) (xs:=#[.tmp 28,.tmp 32]) rfl ?_);at_builtin;refine Kd.R_append k70 (w0:=w) w.heap.size rfl (.tmp 28) (.tmp 32) 42 70 (.agg #[(.string ⟨#[]⟩),(.string ⟨#[]⟩)]) 32 rfl Tryz.underlying42 info70 rfl (by decide) (by omega) u7 x7_1 (⟨a1,a2⟩:S70) [.string a1,.string a2] (fun k_=>k_≠gb1005) (fun _=>False) rfl rfl ?aP (fun _ hk=>hk.elim) ?aF ?aO ?aB ?aS ?aL ?_;(case aP=>exact k70_mkM _ _ _ (⟨a1,a2⟩:S70));(case aB=>exact bg_);(case aF=>exact (fun k_ hk=>Kd.freshB (g:=gb1005) (o:=.cells #[.string ((rd_T70 l0 x15_1).f0),.string ((rd_T70 l0 x15_1).f1)] 70 (0,0)) (vk_ BK1005) k_ hk));(case aO=>exact (ro_ HO_7));(case aS=>exact (below_size bg_));(case aL=>have:=LMc14.out;omega);intro v1008 w16 ho hb hg hat;rw [← Ny1007.out] at ho;have n0_:=am_ (blk_grown (g:=gb1005) (o:=.cells #[.string ((rd_T70 l0 x15_1).f0),.string ((rd_T70 l0 x15_1).f1)] 70 (0,0)) (vk_ BK1005) hg (Kd.R_away HO_7.out (fun _ hk=>hk)));have n1_:=am_ (hb);have n2_:=am_ (ho);clear BK1005;clear HB;clear HO_7;have BK1005:=n0_;have HB:=n1_;have HO1009:=n2_;clear n0_ n1_ n2_;clear ho hb hg hat;have hz17:=bk2_ BK1005));go_roundg kj6
        case measure=>have:=HK1.out;have:=HJ6.out;omega
        case rel=>exact ⟨(y1007),(true),(wrap64 (x15_1+1)),rs_,rs_,H',⟨by have:=HK1.out;have:=HJ6.out;omega⟩,⟨by (with_reducible repeat (first|apply Kd.R_alloc|apply Kd.R_drewN|apply Kd.R_drew));exact Kd.R_mono HO1009.out (fun _ hk=>trivial)⟩,⟨bg_⟩⟩
       ·rw [if_neg c15] at H;have c15b0:=nb_ c15;have c15b1:=nn_ c15;replace H:=is_ H;obtain ⟨c18,H⟩:=H;have LMc18:=am_ c18;clear c18;obtain ⟨y1010,hy1010⟩:∃ y_:List (S70),y_=(y1007++[(⟨((rd_T70 l0 x15_1).f0),((rd_T70 l0 x15_1).f1)⟩:S70)]):=⟨_,rfl⟩;replace H:(spec_l2With.l0 kj6 a1 a2 y1010 true l0 (l0.length:Int) (wrap64 (x15_1+1)))=some r:=by first|(rw [hy1010];with_reducible exact H)|(have H2_:=(Option.bind_some _ _).symm.trans H;rw [hy1010];with_reducible exact H2_)|(have H2_:=(Option.bind_some _ _).symm.trans H;with_reducible exact H2_)|with_reducible exact H|(rw [hy1010];exact H)|exact H
        have Ny1010:=am_ hy1010;clear hy1010;have H':=am_ H;clear H;go_wp2_with (first|((with_reducible refine gate_builtin (b:=.append) (xs:=#[.tmp 28,.tmp 32]) rfl ?_);at_builtin;refine Kd.R_append k70 (w0:=w) w.heap.size rfl (.tmp 28) (.tmp 32) 42 70 (.agg #[(.string ⟨#[]⟩),(.string ⟨#[]⟩)]) 32 rfl Tryz.underlying42 info70 rfl (by decide) (by omega) u7 x7_1 (⟨a1,a2⟩:S70) [.string a1,.string a2] (fun k_=>k_≠gb1005) (fun _=>False) rfl rfl ?aP (fun _ hk=>hk.elim) ?aF ?aO ?aB ?aS ?aL ?_;(case aP=>exact k70_mkM _ _ _ (⟨a1,a2⟩:S70));(case aB=>exact bg_);(case aF=>exact (fun k_ hk=>Kd.freshB (g:=gb1005) (o:=.cells #[.string ((rd_T70 l0 x15_1).f0),.string ((rd_T70 l0 x15_1).f1)] 70 (0,0)) (vk_ BK1005) k_ hk));(case aO=>exact (ro_ HO_7));(case aS=>exact (below_size bg_));(case aL=>have:=LMc14.out;omega);intro v1008 w19 ho hb hg hat;rw [← Ny1007.out] at ho;have n0_:=am_ (blk_grown (g:=gb1005) (o:=.cells #[.string ((rd_T70 l0 x15_1).f0),.string ((rd_T70 l0 x15_1).f1)] 70 (0,0)) (vk_ BK1005) hg (Kd.R_away HO_7.out (fun _ hk=>hk)));have n1_:=am_ (hb);have n2_:=am_ (ho);clear BK1005;clear HB;clear HO_7;have BK1005:=n0_;have HB:=n1_;have HO1009:=n2_;clear n0_ n1_ n2_;clear ho hb hg hat;have hz20:=bk2_ BK1005)|((with_reducible refine gate_builtin (b:=.append) (xs:=#[.tmp 38,.tmp 40]) rfl ?_);at_builtin;refine Kd.R_append k70 (w0:=w) w.heap.size rfl (.tmp 38) (.tmp 40) 42 70 (.agg #[(.string ⟨#[]⟩),(.string ⟨#[]⟩)]) 32 rfl Tryz.underlying42 info70 rfl (by decide) (by omega) v1008 y1007 (⟨((rd_T70 l0 x15_1).f0),((rd_T70 l0 x15_1).f1)⟩:S70) [.string ((rd_T70 l0 x15_1).f0),.string ((rd_T70 l0 x15_1).f1)] (fun k_=>k_≠gb1005) (fun _=>False) rfl rfl ?aP (fun _ hk=>hk.elim) ?aF ?aO ?aB ?aS ?aL ?_;(case aP=>exact k70_mkM _ _ _ (⟨((rd_T70 l0 x15_1).f0),((rd_T70 l0 x15_1).f1)⟩:S70));(case aB=>exact bg_);(case aF=>exact (fun k_ hk=>Kd.freshB (g:=gb1005) (o:=.cells #[.string ((rd_T70 l0 x15_1).f0),.string ((rd_T70 l0 x15_1).f1)] 70 (0,0)) (vk_ BK1005) k_ hk));(case aO=>exact (ro_ HO1009));(case aS=>exact (below_size bg_));(case aL=>have:=LMc18.out;omega);intro v1011 w21 ho hb hg hat;rw [← Ny1010.out] at ho;have n0_:=am_ (blk_grown (g:=gb1005) (o:=.cells #[.string ((rd_T70 l0 x15_1).f0),.string ((rd_T70 l0 x15_1).f1)] 70 (0,0)) (vk_ BK1005) hg (Kd.R_away HO1009.out (fun _ hk=>hk)));have n1_:=am_ (hb);have n2_:=am_ (ho);clear BK1005;clear HB;clear HO1009;have BK1005:=n0_;have HB:=n1_;have HO1012:=n2_;clear n0_ n1_ n2_;clear ho hb hg hat));go_roundg kj6
        case measure=>have:=HK1.out;have:=HJ6.out;omega
        case rel=>exact ⟨(y1010),(true),(wrap64 (x15_1+1)),rs_,rs_,H',⟨by have:=HK1.out;have:=HJ6.out;omega⟩,⟨by (with_reducible repeat (first|apply Kd.R_alloc|apply Kd.R_drewN|apply Kd.R_drew));exact Kd.R_mono HO1012.out (fun _ hk=>trivial)⟩,⟨bg_⟩⟩
      ·replace c13:=Bool.eq_false_iff.mpr c13;subst c13;replace H:=if_ H
       by_cases c22:((rd_T70 l0 x15_1).f0).toList=a1.toList
       ·rw [if_pos c22] at H;have c22b0:=eb_ c22;have c22b1:=en_ c22;clear c22;have H':=am_ H;clear H;have hz23:=bk2_ BK1005;go_wp2;go_roundg kj6
        case measure=>have:=HK1.out;have:=HJ6.out;omega
        case rel=>exact ⟨(x7_1),(x8_1),(wrap64 (x15_1+1)),rs_,rs_,H',⟨by have:=HK1.out;have:=HJ6.out;omega⟩,⟨by (with_reducible repeat (first|apply Kd.R_alloc|apply Kd.R_drewN|apply Kd.R_drew));exact Kd.R_mono HO_7.out (fun _ hk=>trivial)⟩,⟨bg_⟩⟩
       ·rw [if_neg c22] at H;have c22b0:=nb_ c22;have c22b1:=nn_ c22;replace H:=is_ H;obtain ⟨c24,H⟩:=H;have LMc24:=am_ c24;clear c24;obtain ⟨y1013,hy1013⟩:∃ y_:List (S70),y_=(x7_1++[(⟨((rd_T70 l0 x15_1).f0),((rd_T70 l0 x15_1).f1)⟩:S70)]):=⟨_,rfl⟩;replace H:(spec_l2With.l0 kj6 a1 a2 y1013 x8_1 l0 (l0.length:Int) (wrap64 (x15_1+1)))=some r:=by first|(rw [hy1013];with_reducible exact H)|(have H2_:=(Option.bind_some _ _).symm.trans H;rw [hy1013];with_reducible exact H2_)|(have H2_:=(Option.bind_some _ _).symm.trans H;with_reducible exact H2_)|with_reducible exact H|(rw [hy1013];exact H)|exact H
        have Ny1013:=am_ hy1013;clear hy1013;have H':=am_ H;clear H;have hz25:=bk2_ BK1005;go_wp2_with (first|((with_reducible refine gate_builtin (b:=.append) (xs:=#[.tmp 38,.tmp 40]) rfl ?_);at_builtin;refine Kd.R_append k70 (w0:=w) w.heap.size rfl (.tmp 38) (.tmp 40) 42 70 (.agg #[(.string ⟨#[]⟩),(.string ⟨#[]⟩)]) 32 rfl Tryz.underlying42 info70 rfl (by decide) (by omega) u7 x7_1 (⟨((rd_T70 l0 x15_1).f0),((rd_T70 l0 x15_1).f1)⟩:S70) [.string ((rd_T70 l0 x15_1).f0),.string ((rd_T70 l0 x15_1).f1)] (fun k_=>k_≠gb1005) (fun _=>False) rfl rfl ?aP (fun _ hk=>hk.elim) ?aF ?aO ?aB ?aS ?aL ?_;(case aP=>exact k70_mkM _ _ _ (⟨((rd_T70 l0 x15_1).f0),((rd_T70 l0 x15_1).f1)⟩:S70));(case aB=>exact bg_);(case aF=>exact (fun k_ hk=>Kd.freshB (g:=gb1005) (o:=.cells #[.string ((rd_T70 l0 x15_1).f0),.string ((rd_T70 l0 x15_1).f1)] 70 (0,0)) (vk_ BK1005) k_ hk));(case aO=>exact (ro_ HO_7));(case aS=>exact (below_size bg_));(case aL=>have:=LMc24.out;omega);intro v1014 w26 ho hb hg hat;rw [← Ny1013.out] at ho;have n0_:=am_ (blk_grown (g:=gb1005) (o:=.cells #[.string ((rd_T70 l0 x15_1).f0),.string ((rd_T70 l0 x15_1).f1)] 70 (0,0)) (vk_ BK1005) hg (Kd.R_away HO_7.out (fun _ hk=>hk)));have n1_:=am_ (hb);have n2_:=am_ (ho);clear BK1005;clear HB;clear HO_7;have BK1005:=n0_;have HB:=n1_;have HO1015:=n2_;clear n0_ n1_ n2_;clear ho hb hg hat));go_roundg kj6
        case measure=>have:=HK1.out;have:=HJ6.out;omega
        case rel=>exact ⟨(y1013),(x8_1),(wrap64 (x15_1+1)),rs_,rs_,H',⟨by have:=HK1.out;have:=HJ6.out;omega⟩,⟨by (with_reducible repeat (first|apply Kd.R_alloc|apply Kd.R_drewN|apply Kd.R_drew));exact Kd.R_mono HO1015.out (fun _ hk=>trivial)⟩,⟨bg_⟩⟩
   ·rw [if_neg c4] at H;have c4b0:=decide_eq_false c4;clear c4
    by_cases c27:x8_1=true
    ·subst c27;replace H:=it_ H;obtain rfl:=si_ H;go_wp2;go_ret;exact ⟨_,rf_,by (with_reducible repeat (first|apply Kd.R_alloc|apply Kd.R_drewN|apply Kd.R_drew));exact HO_7.out,bl_⟩
    ·replace c27:=Bool.eq_false_iff.mpr c27;subst c27;replace H:=if_ H;replace H:=is_ H;obtain ⟨c28,H⟩:=H;have LMc28:=am_ c28;clear c28;obtain ⟨y1001,hy1001⟩:∃ y_:List (S70),y_=(x7_1++[(⟨a1,a2⟩:S70)]):=⟨_,rfl⟩;replace H:(some y1001)=some r:=by first|(rw [hy1001];with_reducible exact H)|(have H2_:=(Option.bind_some _ _).symm.trans H;rw [hy1001];with_reducible exact H2_)|(have H2_:=(Option.bind_some _ _).symm.trans H;with_reducible exact H2_)|with_reducible exact H|(rw [hy1001];exact H)|exact H
     have Ny1001:=am_ hy1001;clear hy1001;obtain rfl:=si_ H;go_wp2_with (first|((with_reducible refine gate_builtin (b:=.append) (xs:=#[.tmp 45,.tmp 49]) rfl ?_);at_builtin;refine Kd.R_append k70 (w0:=w) w.heap.size rfl (.tmp 45) (.tmp 49) 42 70 (.agg #[(.string ⟨#[]⟩),(.string ⟨#[]⟩)]) 32 rfl Tryz.underlying42 info70 rfl (by decide) (by omega) u7 x7_1 (⟨a1,a2⟩:S70) [.string a1,.string a2] (fun _=>True) (fun _=>False) rfl rfl ?aP (fun _ hk=>hk.elim) ?aF ?aO ?aB ?aS ?aL ?_;(case aP=>exact k70_mkM _ _ _ (⟨a1,a2⟩:S70));(case aB=>exact bl_);(case aF=>exact (fun _ _=>trivial));(case aO=>exact (ro_ HO_7));(case aS=>exact (below_size bl_));(case aL=>have:=LMc28.out;omega);intro v1002 w29 ho hb hg hat;rw [← Ny1001.out] at ho;have n0_:=am_ (hb);have n1_:=am_ (ho);clear HB;clear HO_7;have HB:=n0_;have HO1003:=n1_;clear n0_ n1_;clear ho hb hg hat));go_ret;exact ⟨_,rf_,by (with_reducible repeat (first|apply Kd.R_alloc|apply Kd.R_drewN|apply Kd.R_drew));exact HO1003.out,bl_⟩
def spec_l3Alike.f (k:Nat)(a0_0:ByteArray)(l0_1:List (S70))(a0_2:Int)(a0_3:Bool)(a0_4:Int)(a0_5:Bool)(l0_6:List (S70))(a0_7:Int)(a1_0:ByteArray)(l1_1:List (S70))(a1_2:Int)(a1_3:Bool)(a1_4:Int)(a1_5:Bool)(l1_6:List (S70))(a1_7:Int):Option (Bool):=(spec_l2With.f k l0_1 (⟨#[108,101]⟩:ByteArray) (⟨#[]⟩:ByteArray)).bind fun t1003=>((spec_l2With.f k l1_1 (⟨#[108,101]⟩:ByteArray) (⟨#[]⟩:ByteArray)).bind fun t1006=>((spec_l2Cmp.f k t1003 t1006).bind fun t1009=>(if t1009=0 then (if (a0_3==a1_3)=true then (some (a0_4==a1_4)) else (some false)) else (some false))))
theorem spec_l3Alike.mono:∀ a0 a1 a2 a3 a4 a5 a6 a7 a8 a9 a10 a11 a12 a13 a14 a15 k,LeO (spec_l3Alike.f k a0 a1 a2 a3 a4 a5 a6 a7 a8 a9 a10 a11 a12 a13 a14 a15) (spec_l3Alike.f (k+1) a0 a1 a2 a3 a4 a5 a6 a7 a8 a9 a10 a11 a12 a13 a14 a15):=by
 intro a0 a1 a2 a3 a4 a5 a6 a7 a8 a9 a10 a11 a12 a13 a14 a15 k
 unfold spec_l3Alike.f
 repeat' with_reducible first|apply spec_l2Cmp.mono|apply spec_l2With.mono|apply LeO.refl|apply LeO.none|apply LeO.ite|refine LeO.bind ?_ (fun _ => ?_)
def spec_l3Alike.T1:Bool × List (List Nat × List Nat):=(true,[([],[]),([0],[0]),([1],[1]),([],[]),([3],[3]),([4,2],[4]),([2,5,5],[2,5]),([6],[6]),([7,6],[7]),([8],[8]),([9,8],[8,9]),([8],[8]),([11,8],[8,11]),([10,12,8],[8,10,12]),([8,13],[8,13]),([14,8],[14]),([15],[15]),([16,15],[15,16]),([15],[15]),([18,15],[15,18]),([17,19,15],[15,17,19]),([15,20],[15,20]),([21,15,0,1,2,3,4,5,6,7,8,9,10,11,12,13,14,15,16,17,18,19,20,21],[21])])
def spec_l3Alike.B1:List Nat:=[0,1,3,0,8,31,63,127,255,511,1023,511,2559,8191,16383,32767,65535,131071,65535,327679,1048575,2097151,4194303]
theorem spec_l3Alike.tab1:rtab .any (opsOf Tryz.f38 1)=spec_l3Alike.T1:=by kernel_rfl
theorem spec_l3Alike.bits1:waitsOk spec_l3Alike.T1.2 spec_l3Alike.B1=true:=by kernel_rfl
theorem spec_l3Alike.calls (k:Nat)(a0_0:ByteArray)(A0_1:Option Addr)(c0_1:Nat)(l0_1:List (S70))(a0_2:Int)(a0_3:Bool)(a0_4:Int)(a0_5:Bool)(A0_6:Option Addr)(c0_6:Nat)(l0_6:List (S70))(a0_7:Int)(a1_0:ByteArray)(A1_1:Option Addr)(c1_1:Nat)(l1_1:List (S70))(a1_2:Int)(a1_3:Bool)(a1_4:Int)(a1_5:Bool)(A1_6:Option Addr)(c1_6:Nat)(l1_6:List (S70))(a1_7:Int)(r:Bool)(w:World)(hr0_1:Kd.C k70 w A0_1 l0_1.length l0_1)(hc0_1:l0_1.length<=c0_1)(hr0_6:Kd.C k70 w A0_6 l0_6.length l0_6)(hc0_6:l0_6.length<=c0_6)(hr1_1:Kd.C k70 w A1_1 l1_1.length l1_1)(hc1_1:l1_1.length<=c1_1)(hr1_6:Kd.C k70 w A1_6 l1_6.length l1_6)(hc1_6:l1_6.length<=c1_6)(h:spec_l3Alike.f k a0_0 l0_1 a0_2 a0_3 a0_4 a0_5 l0_6 a0_7 a1_0 l1_1 a1_2 a1_3 a1_4 a1_5 l1_6 a1_7=some r) :
  Calls Tryz.prog 38 #[.agg #[.string a0_0,.slice A0_1 l0_1.length c0_1,.int .i64 a0_2,.bool a0_3,.int .i64 a0_4,.bool a0_5,.slice A0_6 l0_6.length c0_6,.int .i64 a0_7],.agg #[.string a1_0,.slice A1_1 l1_1.length c1_1,.int .i64 a1_2,.bool a1_3,.int .i64 a1_4,.bool a1_5,.slice A1_6 l1_6.length c1_6,.int .i64 a1_7]] w fun e w'=>e = .returned (.bool r)/\Below w.heap.size w w':=by
 have hu46:=Tryz.underlying46;have HR0_1:=am_ hr0_1;have HC0_1:=am_ hc0_1;clear hr0_1 hc0_1;have HR0_6:=am_ hr0_6;have HC0_6:=am_ hc0_6;clear hr0_6 hc0_6;have HR1_1:=am_ hr1_1;have HC1_1:=am_ hc1_1;clear hr1_1 hc1_1;have HR1_6:=am_ hr1_6;have HC1_6:=am_ hc1_6;clear hr1_6 hc1_6;have HB:=am_ (Below.refl w.heap.size w);have H:=h;clear h;unfold spec_l3Alike.f at H;replace H:=bs_ H;obtain ⟨t1003,A3,H⟩:=H;replace H:=bs_ H;obtain ⟨t1006,A4,H⟩:=H;replace H:=bs_ H;obtain ⟨t1009,A5,H⟩:=H
 by_cases c6:t1009=0
 ·rw [if_pos c6] at H;have c6b0:=eb_ c6;have c6b1:=en_ c6;clear c6
  by_cases c7:(a0_3==a1_3)=true
  ·rw [if_pos c7] at H;have c7b0:(a0_3==a1_3)=true:=c7;(try (have c7b1:decide (a0_3=a1_3)=true:=by simpa using c7));(try (have c7b2:(a0_3==a1_3)=true:=by simpa using c7));clear c7;obtain rfl:=si_ H;go_enter Tryz.func38,Tryz.ntmps38;(try go_wp2_with (first|((with_reducible refine gate_dst (N:=2) rfl ?_);refine bx_ 2 #[.string a0_0,.slice A0_1 l0_1.length c0_1,.int .i64 a0_2,.bool a0_3,.int .i64 a0_4,.bool a0_5,.slice A0_6 l0_6.length c0_6,.int .i64 a0_7] 46 ?_;intro gb1001 hg w8 hbox hb;have BK1001:=am_ (hbox);have GW1001:=am_ (gs_ hg:w.heap.size<=gb1001);replace HB:=am_ (below_step bl_ hb);have GE1001:=GW1001;clear hb hbox hg)|((with_reducible refine gate_dst (N:=3) rfl ?_);refine bx_ 3 #[.string a1_0,.slice A1_1 l1_1.length c1_1,.int .i64 a1_2,.bool a1_3,.int .i64 a1_4,.bool a1_5,.slice A1_6 l1_6.length c1_6,.int .i64 a1_7] 46 ?_;intro gb1002 hg w9 hbox hb;have BK1002:=am_ (hbox);have GW1002:=am_ (gg_ hg:w.heap.size<=gb1002);have NB1001_1002:=nl_ BK1001 hg;have NB1002_1001:=nr_ BK1001 hg;replace BK1001:=vb_ BK1001 hb;replace HB:=am_ (below_step bg_ hb);have GE1002:=GW1002;clear hb hbox hg)));have n0_:=am_ (blk_drew BK1001.out);have n1_:=am_ (blk_drew BK1002.out);have n2_:=am_ (below_drew1 HB.out);clear BK1001;clear BK1002;clear HB;have BK1001:=n0_;have BK1002:=n1_;have HB:=n2_;clear n0_ n1_ n2_;refine start_ (n:=23) (S:=fun w'=>w'.cell? ⟨gb1001,0,none⟩=some (.string a0_0)/\w'.cell? ⟨gb1001,1,none⟩=some (.slice A0_1 l0_1.length c0_1)/\w'.cell? ⟨gb1001,2,none⟩=some (.int .i64 a0_2)/\w'.cell? ⟨gb1001,3,none⟩=some (.bool a0_3)/\w'.cell? ⟨gb1001,4,none⟩=some (.int .i64 a0_4)/\w'.cell? ⟨gb1001,5,none⟩=some (.bool a0_5)/\w'.cell? ⟨gb1001,6,none⟩=some (.slice A0_6 l0_6.length c0_6)/\w'.cell? ⟨gb1001,7,none⟩=some (.int .i64 a0_7)/\w'.cell? ⟨gb1002,0,none⟩=some (.string a1_0)/\w'.cell? ⟨gb1002,1,none⟩=some (.slice A1_1 l1_1.length c1_1)/\w'.cell? ⟨gb1002,2,none⟩=some (.int .i64 a1_2)/\w'.cell? ⟨gb1002,3,none⟩=some (.bool a1_3)/\w'.cell? ⟨gb1002,4,none⟩=some (.int .i64 a1_4)/\w'.cell? ⟨gb1002,5,none⟩=some (.bool a1_5)/\w'.cell? ⟨gb1002,6,none⟩=some (.slice A1_6 l1_6.length c1_6)/\w'.cell? ⟨gb1002,7,none⟩=some (.int .i64 a1_7)) (ds:=[]) (bz 23 0) (by kernel_rfl) rfl rfl ⟨(blk_cell BK1001.out 0).trans rfl,(blk_cell BK1001.out 1).trans rfl,(blk_cell BK1001.out 2).trans rfl,(blk_cell BK1001.out 3).trans rfl,(blk_cell BK1001.out 4).trans rfl,(blk_cell BK1001.out 5).trans rfl,(blk_cell BK1001.out 6).trans rfl,(blk_cell BK1001.out 7).trans rfl,(blk_cell BK1002.out 0).trans rfl,(blk_cell BK1002.out 1).trans rfl,(blk_cell BK1002.out 2).trans rfl,(blk_cell BK1002.out 3).trans rfl,(blk_cell BK1002.out 4).trans rfl,(blk_cell BK1002.out 5).trans rfl,(blk_cell BK1002.out 6).trans rfl,(blk_cell BK1002.out 7).trans rfl⟩ (fun hHeld => ?_);refine with_tabW spec_l3Alike.tab1 spec_l3Alike.bits1 (fun HT_ HW_ => ?_);generalize w9.drew=w10 at BK1001 BK1002 HB hHeld ⊢;refine pz_ 0 5 1 ?_;refine pz_ 3 8 9 ?_;refine tz_ 1 6 11 ?_;refine tz_ 4 9 27 ?_;refine one_ (i:=2) (N:=some 7) (bz 23 31) rfl rfl (one_of HT_.out (by kernel_rfl)) (by decide) (fun K hK => ?_);refine goes_ Tryz.func57 (by kernel_rfl) rfl #[.slice A0_1 l0_1.length c0_1,.string (⟨#[108,101]⟩:ByteArray),.string (⟨#[]⟩:ByteArray)] (by rfl) rfl rfl ag_ ?_;(with_reducible refine (spec_l2With.calls k _ _ l0_1 (⟨#[108,101]⟩:ByteArray) (⟨#[]⟩:ByteArray) t1003 _ ?side1 ?side2 A3.out).mono ?_);(case side1=>exact cc_ (Kd.C_below HR0_1.out HB.out));(case side2=>exact HC0_1.out);rintro e w11 ⟨v1004,rfl,ho0,hb⟩;refine ⟨_,rfl,?_⟩;have n0_:=am_ (Kd.R_lower ho0 (below_size bg_));have n1_:=am_ (blk_below (g:=gb1001) (vk_ BK1001) hb);have n2_:=am_ (blk_below (g:=gb1002) (vk_ BK1002) hb);have n3_:=am_ (below_step bg_ hb);clear BK1001;clear BK1002;clear HB;have HO1005:=n0_;have BK1001:=n1_;have BK1002:=n2_;have HB:=n3_;clear n0_ n1_ n2_ n3_;(try clear hb);(try clear hb2);(try clear hk);(try clear hi);(try clear ho0);refine hK.out _ _ ⟨(blk_cell BK1001.out 0).trans rfl,(blk_cell BK1001.out 1).trans rfl,(blk_cell BK1001.out 2).trans rfl,(blk_cell BK1001.out 3).trans rfl,(blk_cell BK1001.out 4).trans rfl,(blk_cell BK1001.out 5).trans rfl,(blk_cell BK1001.out 6).trans rfl,(blk_cell BK1001.out 7).trans rfl,(blk_cell BK1002.out 0).trans rfl,(blk_cell BK1002.out 1).trans rfl,(blk_cell BK1002.out 2).trans rfl,(blk_cell BK1002.out 3).trans rfl,(blk_cell BK1002.out 4).trans rfl,(blk_cell BK1002.out 5).trans rfl,(blk_cell BK1002.out 6).trans rfl,(blk_cell BK1002.out 7).trans rfl⟩ (fun hHeld => ?_);clear hK K;refine norm_ (a':=?_) ?_ ?_;rotate_left
   ·show Act.put _ (some 7) _=_;simp only [Act.put,List.setIfInBounds_toArray,List.set_cons_zero,List.set_cons_succ,i64_w,i32_w];rfl
   refine one_ (i:=5) (N:=some 10) (bz 23 63) rfl rfl (one_of HT_.out (by kernel_rfl)) (by decide) (fun K hK => ?_);refine goes_ Tryz.func57 (by kernel_rfl) rfl #[.slice A1_1 l1_1.length c1_1,.string (⟨#[108,101]⟩:ByteArray),.string (⟨#[]⟩:ByteArray)] (by rfl) rfl rfl ag_ ?_;(with_reducible refine (spec_l2With.calls k _ _ l1_1 (⟨#[108,101]⟩:ByteArray) (⟨#[]⟩:ByteArray) t1006 _ ?side1 ?side2 A4.out).mono ?_);(case side1=>exact cc_ (Kd.C_below HR1_1.out HB.out));(case side2=>exact HC1_1.out);rintro e w12 ⟨v1007,rfl,ho0,hb⟩;refine ⟨_,rfl,?_⟩;have n0_:=am_ (Kd.R_elder' (ro_ HO1005) (Kd.R_base ho0) hb);have n1_:=am_ (Kd.R_lower (Kd.R_new' ho0 (Kd.R_lt (ro_ HO1005))) (below_size bg_));have n2_:=am_ (blk_below (g:=gb1001) (vk_ BK1001) hb);have n3_:=am_ (blk_below (g:=gb1002) (vk_ BK1002) hb);have n4_:=am_ (below_step bg_ hb);clear HO1005;clear BK1001;clear BK1002;clear HB;have HO1005:=n0_;have HO1008:=n1_;have BK1001:=n2_;have BK1002:=n3_;have HB:=n4_;clear n0_ n1_ n2_ n3_ n4_;(try clear hb);(try clear hb2);(try clear hk);(try clear hi);(try clear ho0);obtain ⟨Ao13,co13,eo13⟩:=Kd.R_slice HO1005.out;(first|subst eo13|(injection eo13 with f1_ f2_ f3_;have f4_:=f1_.symm;have f5_:=f3_.symm;clear f1_ f2_ f3_;subst f4_;subst f5_));obtain ⟨Ao14,co14,eo14⟩:=Kd.R_slice HO1008.out;(first|subst eo14|(injection eo14 with f1_ f2_ f3_;have f4_:=f1_.symm;have f5_:=f3_.symm;clear f1_ f2_ f3_;subst f4_;subst f5_));refine hK.out _ _ ⟨(blk_cell BK1001.out 0).trans rfl,(blk_cell BK1001.out 1).trans rfl,(blk_cell BK1001.out 2).trans rfl,(blk_cell BK1001.out 3).trans rfl,(blk_cell BK1001.out 4).trans rfl,(blk_cell BK1001.out 5).trans rfl,(blk_cell BK1001.out 6).trans rfl,(blk_cell BK1001.out 7).trans rfl,(blk_cell BK1002.out 0).trans rfl,(blk_cell BK1002.out 1).trans rfl,(blk_cell BK1002.out 2).trans rfl,(blk_cell BK1002.out 3).trans rfl,(blk_cell BK1002.out 4).trans rfl,(blk_cell BK1002.out 5).trans rfl,(blk_cell BK1002.out 6).trans rfl,(blk_cell BK1002.out 7).trans rfl⟩ (fun hHeld => ?_);clear hK K;refine norm_ (a':=?_) ?_ ?_;rotate_left
   ·show Act.put _ (some 10) _=_;simp only [Act.put,List.setIfInBounds_toArray,List.set_cons_zero,List.set_cons_succ,i64_w,i32_w];rfl
   refine one_ (i:=6) (N:=some 11) (bz 23 127) rfl rfl (one_of HT_.out (by kernel_rfl)) (by decide) (fun K hK => ?_);refine goes_ Tryz.func19 (by kernel_rfl) rfl #[.slice Ao13 t1003.length co13,.slice Ao14 t1006.length co14] (by rfl) rfl rfl ag_ ?_;(with_reducible refine (spec_l2Cmp.calls k _ _ t1003 _ _ t1006 t1009 _ ?side1 ?side2 ?side3 ?side4 A5.out).mono ?_);(case side1=>exact cc_ (Kd.R_reads' HO1005.out).2.2);(case side2=>exact (Kd.R_reads' HO1005.out).2.1);(case side3=>exact cc_ (Kd.R_reads' HO1008.out).2.2);(case side4=>exact (Kd.R_reads' HO1008.out).2.1);rintro e w' ⟨rfl,⟨nd,rfl⟩⟩;refine ⟨_,rfl,?_⟩;refine hK.out _ _ ⟨(blk_cell BK1001.out 0).trans rfl,(blk_cell BK1001.out 1).trans rfl,(blk_cell BK1001.out 2).trans rfl,(blk_cell BK1001.out 3).trans rfl,(blk_cell BK1001.out 4).trans rfl,(blk_cell BK1001.out 5).trans rfl,(blk_cell BK1001.out 6).trans rfl,(blk_cell BK1001.out 7).trans rfl,(blk_cell BK1002.out 0).trans rfl,(blk_cell BK1002.out 1).trans rfl,(blk_cell BK1002.out 2).trans rfl,(blk_cell BK1002.out 3).trans rfl,(blk_cell BK1002.out 4).trans rfl,(blk_cell BK1002.out 5).trans rfl,(blk_cell BK1002.out 6).trans rfl,(blk_cell BK1002.out 7).trans rfl⟩ (fun hHeld => ?_);clear hK K;refine norm_ (a':=?_) ?_ ?_;rotate_left
   ·show Act.put _ (some 11) _=_;simp only [Act.put,List.setIfInBounds_toArray,List.set_cons_zero,List.set_cons_succ,i64_w,i32_w];rfl
   refine pz_ 7 12 255 ?_;refine pz_ 8 13 511 ?_;refine pz_ 9 14 1023 ?_;refine pz_ 11 16 3071 ?_;refine tz_ 10 15 4095 ?_;refine tz_ 12 17 8191 ?_;refine pz_ 13 18 16383 ?_;refine pz_ 14 19 32767 ?_;refine pz_ 15 20 65535 ?_;refine pz_ 16 21 131071 ?_;refine pz_ 18 23 393215 ?_;refine tz_ 17 22 524287 ?_;refine tz_ 19 24 1048575 ?_;refine pz_ 20 25 2097151 ?_;refine pz_ 21 26 4194303 ?_;refine pz_ 22 4 8388607 ?_;refine done_ (done_of HT_.out (by kernel_rfl)) ?_;(try go_wp2);go_ret;exact ⟨rf_,bg_⟩
  ·rw [if_neg c7] at H;have c7b0:(a0_3==a1_3)=false:=by simpa using c7
   (try (have c7b1:decide (a0_3=a1_3)=false:=by simpa using c7));(try (have c7b2:(a0_3==a1_3)=false:=by simpa using c7));(try (have c7b3:¬ (a0_3=a1_3):=by simpa using c7));clear c7;obtain rfl:=si_ H;go_enter Tryz.func38,Tryz.ntmps38;(try go_wp2_with (first|((with_reducible refine gate_dst (N:=2) rfl ?_);refine bx_ 2 #[.string a0_0,.slice A0_1 l0_1.length c0_1,.int .i64 a0_2,.bool a0_3,.int .i64 a0_4,.bool a0_5,.slice A0_6 l0_6.length c0_6,.int .i64 a0_7] 46 ?_;intro gb1001 hg w15 hbox hb;have BK1001:=am_ (hbox);have GW1001:=am_ (gs_ hg:w.heap.size<=gb1001);replace HB:=am_ (below_step bl_ hb);have GE1001:=GW1001;clear hb hbox hg)|((with_reducible refine gate_dst (N:=3) rfl ?_);refine bx_ 3 #[.string a1_0,.slice A1_1 l1_1.length c1_1,.int .i64 a1_2,.bool a1_3,.int .i64 a1_4,.bool a1_5,.slice A1_6 l1_6.length c1_6,.int .i64 a1_7] 46 ?_;intro gb1002 hg w16 hbox hb;have BK1002:=am_ (hbox);have GW1002:=am_ (gg_ hg:w.heap.size<=gb1002);have NB1001_1002:=nl_ BK1001 hg;have NB1002_1001:=nr_ BK1001 hg;replace BK1001:=vb_ BK1001 hb;replace HB:=am_ (below_step bg_ hb);have GE1002:=GW1002;clear hb hbox hg)));have n0_:=am_ (blk_drew BK1001.out);have n1_:=am_ (blk_drew BK1002.out);have n2_:=am_ (below_drew1 HB.out);clear BK1001;clear BK1002;clear HB;have BK1001:=n0_;have BK1002:=n1_;have HB:=n2_;clear n0_ n1_ n2_;refine start_ (n:=23) (S:=fun w'=>w'.cell? ⟨gb1001,0,none⟩=some (.string a0_0)/\w'.cell? ⟨gb1001,1,none⟩=some (.slice A0_1 l0_1.length c0_1)/\w'.cell? ⟨gb1001,2,none⟩=some (.int .i64 a0_2)/\w'.cell? ⟨gb1001,3,none⟩=some (.bool a0_3)/\w'.cell? ⟨gb1001,4,none⟩=some (.int .i64 a0_4)/\w'.cell? ⟨gb1001,5,none⟩=some (.bool a0_5)/\w'.cell? ⟨gb1001,6,none⟩=some (.slice A0_6 l0_6.length c0_6)/\w'.cell? ⟨gb1001,7,none⟩=some (.int .i64 a0_7)/\w'.cell? ⟨gb1002,0,none⟩=some (.string a1_0)/\w'.cell? ⟨gb1002,1,none⟩=some (.slice A1_1 l1_1.length c1_1)/\w'.cell? ⟨gb1002,2,none⟩=some (.int .i64 a1_2)/\w'.cell? ⟨gb1002,3,none⟩=some (.bool a1_3)/\w'.cell? ⟨gb1002,4,none⟩=some (.int .i64 a1_4)/\w'.cell? ⟨gb1002,5,none⟩=some (.bool a1_5)/\w'.cell? ⟨gb1002,6,none⟩=some (.slice A1_6 l1_6.length c1_6)/\w'.cell? ⟨gb1002,7,none⟩=some (.int .i64 a1_7)) (ds:=[]) (bz 23 0) (by kernel_rfl) rfl rfl ⟨(blk_cell BK1001.out 0).trans rfl,(blk_cell BK1001.out 1).trans rfl,(blk_cell BK1001.out 2).trans rfl,(blk_cell BK1001.out 3).trans rfl,(blk_cell BK1001.out 4).trans rfl,(blk_cell BK1001.out 5).trans rfl,(blk_cell BK1001.out 6).trans rfl,(blk_cell BK1001.out 7).trans rfl,(blk_cell BK1002.out 0).trans rfl,(blk_cell BK1002.out 1).trans rfl,(blk_cell BK1002.out 2).trans rfl,(blk_cell BK1002.out 3).trans rfl,(blk_cell BK1002.out 4).trans rfl,(blk_cell BK1002.out 5).trans rfl,(blk_cell BK1002.out 6).trans rfl,(blk_cell BK1002.out 7).trans rfl⟩ (fun hHeld => ?_);refine with_tabW spec_l3Alike.tab1 spec_l3Alike.bits1 (fun HT_ HW_ => ?_);generalize w16.drew=w17 at BK1001 BK1002 HB hHeld ⊢;refine pz_ 0 5 1 ?_;refine pz_ 3 8 9 ?_;refine tz_ 1 6 11 ?_;refine tz_ 4 9 27 ?_;refine one_ (i:=2) (N:=some 7) (bz 23 31) rfl rfl (one_of HT_.out (by kernel_rfl)) (by decide) (fun K hK => ?_);refine goes_ Tryz.func57 (by kernel_rfl) rfl #[.slice A0_1 l0_1.length c0_1,.string (⟨#[108,101]⟩:ByteArray),.string (⟨#[]⟩:ByteArray)] (by rfl) rfl rfl ag_ ?_;(with_reducible refine (spec_l2With.calls k _ _ l0_1 (⟨#[108,101]⟩:ByteArray) (⟨#[]⟩:ByteArray) t1003 _ ?side1 ?side2 A3.out).mono ?_);(case side1=>exact cc_ (Kd.C_below HR0_1.out HB.out));(case side2=>exact HC0_1.out);rintro e w18 ⟨v1004,rfl,ho0,hb⟩;refine ⟨_,rfl,?_⟩;have n0_:=am_ (Kd.R_lower ho0 (below_size bg_));have n1_:=am_ (blk_below (g:=gb1001) (vk_ BK1001) hb);have n2_:=am_ (blk_below (g:=gb1002) (vk_ BK1002) hb);have n3_:=am_ (below_step bg_ hb);clear BK1001;clear BK1002;clear HB;have HO1005:=n0_;have BK1001:=n1_;have BK1002:=n2_;have HB:=n3_;clear n0_ n1_ n2_ n3_;(try clear hb);(try clear hb2);(try clear hk);(try clear hi);(try clear ho0);refine hK.out _ _ ⟨(blk_cell BK1001.out 0).trans rfl,(blk_cell BK1001.out 1).trans rfl,(blk_cell BK1001.out 2).trans rfl,(blk_cell BK1001.out 3).trans rfl,(blk_cell BK1001.out 4).trans rfl,(blk_cell BK1001.out 5).trans rfl,(blk_cell BK1001.out 6).trans rfl,(blk_cell BK1001.out 7).trans rfl,(blk_cell BK1002.out 0).trans rfl,(blk_cell BK1002.out 1).trans rfl,(blk_cell BK1002.out 2).trans rfl,(blk_cell BK1002.out 3).trans rfl,(blk_cell BK1002.out 4).trans rfl,(blk_cell BK1002.out 5).trans rfl,(blk_cell BK1002.out 6).trans rfl,(blk_cell BK1002.out 7).trans rfl⟩ (fun hHeld => ?_);clear hK K;refine norm_ (a':=?_) ?_ ?_;rotate_left
   ·show Act.put _ (some 7) _=_;simp only [Act.put,List.setIfInBounds_toArray,List.set_cons_zero,List.set_cons_succ,i64_w,i32_w];rfl
   refine one_ (i:=5) (N:=some 10) (bz 23 63) rfl rfl (one_of HT_.out (by kernel_rfl)) (by decide) (fun K hK => ?_);refine goes_ Tryz.func57 (by kernel_rfl) rfl #[.slice A1_1 l1_1.length c1_1,.string (⟨#[108,101]⟩:ByteArray),.string (⟨#[]⟩:ByteArray)] (by rfl) rfl rfl ag_ ?_;(with_reducible refine (spec_l2With.calls k _ _ l1_1 (⟨#[108,101]⟩:ByteArray) (⟨#[]⟩:ByteArray) t1006 _ ?side1 ?side2 A4.out).mono ?_);(case side1=>exact cc_ (Kd.C_below HR1_1.out HB.out));(case side2=>exact HC1_1.out);rintro e w19 ⟨v1007,rfl,ho0,hb⟩;refine ⟨_,rfl,?_⟩;have n0_:=am_ (Kd.R_elder' (ro_ HO1005) (Kd.R_base ho0) hb);have n1_:=am_ (Kd.R_lower (Kd.R_new' ho0 (Kd.R_lt (ro_ HO1005))) (below_size bg_));have n2_:=am_ (blk_below (g:=gb1001) (vk_ BK1001) hb);have n3_:=am_ (blk_below (g:=gb1002) (vk_ BK1002) hb);have n4_:=am_ (below_step bg_ hb);clear HO1005;clear BK1001;clear BK1002;clear HB;have HO1005:=n0_;have HO1008:=n1_;have BK1001:=n2_;have BK1002:=n3_;have HB:=n4_;clear n0_ n1_ n2_ n3_ n4_;(try clear hb);(try clear hb2);(try clear hk);(try clear hi);(try clear ho0);obtain ⟨Ao20,co20,eo20⟩:=Kd.R_slice HO1005.out;(first|subst eo20|(injection eo20 with f1_ f2_ f3_;have f4_:=f1_.symm;have f5_:=f3_.symm;clear f1_ f2_ f3_;subst f4_;subst f5_));obtain ⟨Ao21,co21,eo21⟩:=Kd.R_slice HO1008.out;(first|subst eo21|(injection eo21 with f1_ f2_ f3_;have f4_:=f1_.symm;have f5_:=f3_.symm;clear f1_ f2_ f3_;subst f4_;subst f5_));refine hK.out _ _ ⟨(blk_cell BK1001.out 0).trans rfl,(blk_cell BK1001.out 1).trans rfl,(blk_cell BK1001.out 2).trans rfl,(blk_cell BK1001.out 3).trans rfl,(blk_cell BK1001.out 4).trans rfl,(blk_cell BK1001.out 5).trans rfl,(blk_cell BK1001.out 6).trans rfl,(blk_cell BK1001.out 7).trans rfl,(blk_cell BK1002.out 0).trans rfl,(blk_cell BK1002.out 1).trans rfl,(blk_cell BK1002.out 2).trans rfl,(blk_cell BK1002.out 3).trans rfl,(blk_cell BK1002.out 4).trans rfl,(blk_cell BK1002.out 5).trans rfl,(blk_cell BK1002.out 6).trans rfl,(blk_cell BK1002.out 7).trans rfl⟩ (fun hHeld => ?_);clear hK K;refine norm_ (a':=?_) ?_ ?_;rotate_left
   ·show Act.put _ (some 10) _=_;simp only [Act.put,List.setIfInBounds_toArray,List.set_cons_zero,List.set_cons_succ,i64_w,i32_w];rfl
   refine one_ (i:=6) (N:=some 11) (bz 23 127) rfl rfl (one_of HT_.out (by kernel_rfl)) (by decide) (fun K hK => ?_);refine goes_ Tryz.func19 (by kernel_rfl) rfl #[.slice Ao20 t1003.length co20,.slice Ao21 t1006.length co21] (by rfl) rfl rfl ag_ ?_;(with_reducible refine (spec_l2Cmp.calls k _ _ t1003 _ _ t1006 t1009 _ ?side1 ?side2 ?side3 ?side4 A5.out).mono ?_);(case side1=>exact cc_ (Kd.R_reads' HO1005.out).2.2);(case side2=>exact (Kd.R_reads' HO1005.out).2.1);(case side3=>exact cc_ (Kd.R_reads' HO1008.out).2.2);(case side4=>exact (Kd.R_reads' HO1008.out).2.1);rintro e w' ⟨rfl,⟨nd,rfl⟩⟩;refine ⟨_,rfl,?_⟩;refine hK.out _ _ ⟨(blk_cell BK1001.out 0).trans rfl,(blk_cell BK1001.out 1).trans rfl,(blk_cell BK1001.out 2).trans rfl,(blk_cell BK1001.out 3).trans rfl,(blk_cell BK1001.out 4).trans rfl,(blk_cell BK1001.out 5).trans rfl,(blk_cell BK1001.out 6).trans rfl,(blk_cell BK1001.out 7).trans rfl,(blk_cell BK1002.out 0).trans rfl,(blk_cell BK1002.out 1).trans rfl,(blk_cell BK1002.out 2).trans rfl,(blk_cell BK1002.out 3).trans rfl,(blk_cell BK1002.out 4).trans rfl,(blk_cell BK1002.out 5).trans rfl,(blk_cell BK1002.out 6).trans rfl,(blk_cell BK1002.out 7).trans rfl⟩ (fun hHeld => ?_);clear hK K;refine norm_ (a':=?_) ?_ ?_;rotate_left
   ·show Act.put _ (some 11) _=_;simp only [Act.put,List.setIfInBounds_toArray,List.set_cons_zero,List.set_cons_succ,i64_w,i32_w];rfl
   refine pz_ 7 12 255 ?_;refine pz_ 8 13 511 ?_;refine pz_ 9 14 1023 ?_;refine pz_ 11 16 3071 ?_;refine tz_ 10 15 4095 ?_;refine tz_ 12 17 8191 ?_;refine pz_ 13 18 16383 ?_;refine pz_ 14 19 32767 ?_;refine pz_ 15 20 65535 ?_;refine uz_ 16 21 131071 ?_;refine uz_ 17 22 262143 ?_;refine uz_ 18 23 524287 ?_;refine uz_ 19 24 1048575 ?_;refine uz_ 20 25 2097151 ?_;refine pz_ 21 26 4194303 ?_;refine pz_ 22 4 8388607 ?_;refine done_ (done_of HT_.out (by kernel_rfl)) ?_;(try go_wp2);go_ret;exact ⟨rf_,bg_⟩
 ·rw [if_neg c6] at H;have c6b0:=nb_ c6;have c6b1:=nn_ c6;obtain rfl:=si_ H;go_enter Tryz.func38,Tryz.ntmps38;(try go_wp2_with (first|((with_reducible refine gate_dst (N:=2) rfl ?_);refine bx_ 2 #[.string a0_0,.slice A0_1 l0_1.length c0_1,.int .i64 a0_2,.bool a0_3,.int .i64 a0_4,.bool a0_5,.slice A0_6 l0_6.length c0_6,.int .i64 a0_7] 46 ?_;intro gb1001 hg w22 hbox hb;have BK1001:=am_ (hbox);have GW1001:=am_ (gs_ hg:w.heap.size<=gb1001);replace HB:=am_ (below_step bl_ hb);have GE1001:=GW1001;clear hb hbox hg)|((with_reducible refine gate_dst (N:=3) rfl ?_);refine bx_ 3 #[.string a1_0,.slice A1_1 l1_1.length c1_1,.int .i64 a1_2,.bool a1_3,.int .i64 a1_4,.bool a1_5,.slice A1_6 l1_6.length c1_6,.int .i64 a1_7] 46 ?_;intro gb1002 hg w23 hbox hb;have BK1002:=am_ (hbox);have GW1002:=am_ (gg_ hg:w.heap.size<=gb1002);have NB1001_1002:=nl_ BK1001 hg;have NB1002_1001:=nr_ BK1001 hg;replace BK1001:=vb_ BK1001 hb;replace HB:=am_ (below_step bg_ hb);have GE1002:=GW1002;clear hb hbox hg)));have n0_:=am_ (blk_drew BK1001.out);have n1_:=am_ (blk_drew BK1002.out);have n2_:=am_ (below_drew1 HB.out);clear BK1001;clear BK1002;clear HB;have BK1001:=n0_;have BK1002:=n1_;have HB:=n2_;clear n0_ n1_ n2_;refine start_ (n:=23) (S:=fun w'=>w'.cell? ⟨gb1001,0,none⟩=some (.string a0_0)/\w'.cell? ⟨gb1001,1,none⟩=some (.slice A0_1 l0_1.length c0_1)/\w'.cell? ⟨gb1001,2,none⟩=some (.int .i64 a0_2)/\w'.cell? ⟨gb1001,3,none⟩=some (.bool a0_3)/\w'.cell? ⟨gb1001,4,none⟩=some (.int .i64 a0_4)/\w'.cell? ⟨gb1001,5,none⟩=some (.bool a0_5)/\w'.cell? ⟨gb1001,6,none⟩=some (.slice A0_6 l0_6.length c0_6)/\w'.cell? ⟨gb1001,7,none⟩=some (.int .i64 a0_7)/\w'.cell? ⟨gb1002,0,none⟩=some (.string a1_0)/\w'.cell? ⟨gb1002,1,none⟩=some (.slice A1_1 l1_1.length c1_1)/\w'.cell? ⟨gb1002,2,none⟩=some (.int .i64 a1_2)/\w'.cell? ⟨gb1002,3,none⟩=some (.bool a1_3)/\w'.cell? ⟨gb1002,4,none⟩=some (.int .i64 a1_4)/\w'.cell? ⟨gb1002,5,none⟩=some (.bool a1_5)/\w'.cell? ⟨gb1002,6,none⟩=some (.slice A1_6 l1_6.length c1_6)/\w'.cell? ⟨gb1002,7,none⟩=some (.int .i64 a1_7)) (ds:=[]) (bz 23 0) (by kernel_rfl) rfl rfl ⟨(blk_cell BK1001.out 0).trans rfl,(blk_cell BK1001.out 1).trans rfl,(blk_cell BK1001.out 2).trans rfl,(blk_cell BK1001.out 3).trans rfl,(blk_cell BK1001.out 4).trans rfl,(blk_cell BK1001.out 5).trans rfl,(blk_cell BK1001.out 6).trans rfl,(blk_cell BK1001.out 7).trans rfl,(blk_cell BK1002.out 0).trans rfl,(blk_cell BK1002.out 1).trans rfl,(blk_cell BK1002.out 2).trans rfl,(blk_cell BK1002.out 3).trans rfl,(blk_cell BK1002.out 4).trans rfl,(blk_cell BK1002.out 5).trans rfl,(blk_cell BK1002.out 6).trans rfl,(blk_cell BK1002.out 7).trans rfl⟩ (fun hHeld => ?_);refine with_tabW spec_l3Alike.tab1 spec_l3Alike.bits1 (fun HT_ HW_ => ?_);generalize w23.drew=w24 at BK1001 BK1002 HB hHeld ⊢;refine pz_ 0 5 1 ?_;refine pz_ 3 8 9 ?_;refine tz_ 1 6 11 ?_;refine tz_ 4 9 27 ?_;refine one_ (i:=2) (N:=some 7) (bz 23 31) rfl rfl (one_of HT_.out (by kernel_rfl)) (by decide) (fun K hK => ?_);refine goes_ Tryz.func57 (by kernel_rfl) rfl #[.slice A0_1 l0_1.length c0_1,.string (⟨#[108,101]⟩:ByteArray),.string (⟨#[]⟩:ByteArray)] (by rfl) rfl rfl ag_ ?_;(with_reducible refine (spec_l2With.calls k _ _ l0_1 (⟨#[108,101]⟩:ByteArray) (⟨#[]⟩:ByteArray) t1003 _ ?side1 ?side2 A3.out).mono ?_);(case side1=>exact cc_ (Kd.C_below HR0_1.out HB.out));(case side2=>exact HC0_1.out);rintro e w25 ⟨v1004,rfl,ho0,hb⟩;refine ⟨_,rfl,?_⟩;have n0_:=am_ (Kd.R_lower ho0 (below_size bg_));have n1_:=am_ (blk_below (g:=gb1001) (vk_ BK1001) hb);have n2_:=am_ (blk_below (g:=gb1002) (vk_ BK1002) hb);have n3_:=am_ (below_step bg_ hb);clear BK1001;clear BK1002;clear HB;have HO1005:=n0_;have BK1001:=n1_;have BK1002:=n2_;have HB:=n3_;clear n0_ n1_ n2_ n3_;(try clear hb);(try clear hb2);(try clear hk);(try clear hi);(try clear ho0);refine hK.out _ _ ⟨(blk_cell BK1001.out 0).trans rfl,(blk_cell BK1001.out 1).trans rfl,(blk_cell BK1001.out 2).trans rfl,(blk_cell BK1001.out 3).trans rfl,(blk_cell BK1001.out 4).trans rfl,(blk_cell BK1001.out 5).trans rfl,(blk_cell BK1001.out 6).trans rfl,(blk_cell BK1001.out 7).trans rfl,(blk_cell BK1002.out 0).trans rfl,(blk_cell BK1002.out 1).trans rfl,(blk_cell BK1002.out 2).trans rfl,(blk_cell BK1002.out 3).trans rfl,(blk_cell BK1002.out 4).trans rfl,(blk_cell BK1002.out 5).trans rfl,(blk_cell BK1002.out 6).trans rfl,(blk_cell BK1002.out 7).trans rfl⟩ (fun hHeld => ?_);clear hK K;refine norm_ (a':=?_) ?_ ?_;rotate_left
  ·show Act.put _ (some 7) _=_;simp only [Act.put,List.setIfInBounds_toArray,List.set_cons_zero,List.set_cons_succ,i64_w,i32_w];rfl
  refine one_ (i:=5) (N:=some 10) (bz 23 63) rfl rfl (one_of HT_.out (by kernel_rfl)) (by decide) (fun K hK => ?_);refine goes_ Tryz.func57 (by kernel_rfl) rfl #[.slice A1_1 l1_1.length c1_1,.string (⟨#[108,101]⟩:ByteArray),.string (⟨#[]⟩:ByteArray)] (by rfl) rfl rfl ag_ ?_;(with_reducible refine (spec_l2With.calls k _ _ l1_1 (⟨#[108,101]⟩:ByteArray) (⟨#[]⟩:ByteArray) t1006 _ ?side1 ?side2 A4.out).mono ?_);(case side1=>exact cc_ (Kd.C_below HR1_1.out HB.out));(case side2=>exact HC1_1.out);rintro e w26 ⟨v1007,rfl,ho0,hb⟩;refine ⟨_,rfl,?_⟩;have n0_:=am_ (Kd.R_elder' (ro_ HO1005) (Kd.R_base ho0) hb);have n1_:=am_ (Kd.R_lower (Kd.R_new' ho0 (Kd.R_lt (ro_ HO1005))) (below_size bg_));have n2_:=am_ (blk_below (g:=gb1001) (vk_ BK1001) hb);have n3_:=am_ (blk_below (g:=gb1002) (vk_ BK1002) hb);have n4_:=am_ (below_step bg_ hb);clear HO1005;clear BK1001;clear BK1002;clear HB;have HO1005:=n0_;have HO1008:=n1_;have BK1001:=n2_;have BK1002:=n3_;have HB:=n4_;clear n0_ n1_ n2_ n3_ n4_;(try clear hb);(try clear hb2);(try clear hk);(try clear hi);(try clear ho0);obtain ⟨Ao27,co27,eo27⟩:=Kd.R_slice HO1005.out;(first|subst eo27|(injection eo27 with f1_ f2_ f3_;have f4_:=f1_.symm;have f5_:=f3_.symm;clear f1_ f2_ f3_;subst f4_;subst f5_));obtain ⟨Ao28,co28,eo28⟩:=Kd.R_slice HO1008.out;(first|subst eo28|(injection eo28 with f1_ f2_ f3_;have f4_:=f1_.symm;have f5_:=f3_.symm;clear f1_ f2_ f3_;subst f4_;subst f5_));refine hK.out _ _ ⟨(blk_cell BK1001.out 0).trans rfl,(blk_cell BK1001.out 1).trans rfl,(blk_cell BK1001.out 2).trans rfl,(blk_cell BK1001.out 3).trans rfl,(blk_cell BK1001.out 4).trans rfl,(blk_cell BK1001.out 5).trans rfl,(blk_cell BK1001.out 6).trans rfl,(blk_cell BK1001.out 7).trans rfl,(blk_cell BK1002.out 0).trans rfl,(blk_cell BK1002.out 1).trans rfl,(blk_cell BK1002.out 2).trans rfl,(blk_cell BK1002.out 3).trans rfl,(blk_cell BK1002.out 4).trans rfl,(blk_cell BK1002.out 5).trans rfl,(blk_cell BK1002.out 6).trans rfl,(blk_cell BK1002.out 7).trans rfl⟩ (fun hHeld => ?_);clear hK K;refine norm_ (a':=?_) ?_ ?_;rotate_left
  ·show Act.put _ (some 10) _=_;simp only [Act.put,List.setIfInBounds_toArray,List.set_cons_zero,List.set_cons_succ,i64_w,i32_w];rfl
  refine one_ (i:=6) (N:=some 11) (bz 23 127) rfl rfl (one_of HT_.out (by kernel_rfl)) (by decide) (fun K hK => ?_);refine goes_ Tryz.func19 (by kernel_rfl) rfl #[.slice Ao27 t1003.length co27,.slice Ao28 t1006.length co28] (by rfl) rfl rfl ag_ ?_;(with_reducible refine (spec_l2Cmp.calls k _ _ t1003 _ _ t1006 t1009 _ ?side1 ?side2 ?side3 ?side4 A5.out).mono ?_);(case side1=>exact cc_ (Kd.R_reads' HO1005.out).2.2);(case side2=>exact (Kd.R_reads' HO1005.out).2.1);(case side3=>exact cc_ (Kd.R_reads' HO1008.out).2.2);(case side4=>exact (Kd.R_reads' HO1008.out).2.1);rintro e w' ⟨rfl,⟨nd,rfl⟩⟩;refine ⟨_,rfl,?_⟩;refine hK.out _ _ ⟨(blk_cell BK1001.out 0).trans rfl,(blk_cell BK1001.out 1).trans rfl,(blk_cell BK1001.out 2).trans rfl,(blk_cell BK1001.out 3).trans rfl,(blk_cell BK1001.out 4).trans rfl,(blk_cell BK1001.out 5).trans rfl,(blk_cell BK1001.out 6).trans rfl,(blk_cell BK1001.out 7).trans rfl,(blk_cell BK1002.out 0).trans rfl,(blk_cell BK1002.out 1).trans rfl,(blk_cell BK1002.out 2).trans rfl,(blk_cell BK1002.out 3).trans rfl,(blk_cell BK1002.out 4).trans rfl,(blk_cell BK1002.out 5).trans rfl,(blk_cell BK1002.out 6).trans rfl,(blk_cell BK1002.out 7).trans rfl⟩ (fun hHeld => ?_);clear hK K;refine norm_ (a':=?_) ?_ ?_;rotate_left
  ·show Act.put _ (some 11) _=_;simp only [Act.put,List.setIfInBounds_toArray,List.set_cons_zero,List.set_cons_succ,i64_w,i32_w];rfl
  refine pz_ 7 12 255 ?_;refine pz_ 8 13 511 ?_;refine uz_ 9 14 1023 ?_;refine uz_ 10 15 2047 ?_;refine uz_ 11 16 4095 ?_;refine uz_ 12 17 8191 ?_;refine uz_ 13 18 16383 ?_;refine pz_ 14 19 32767 ?_;refine pz_ 15 20 65535 ?_;refine uz_ 16 21 131071 ?_;refine uz_ 17 22 262143 ?_;refine uz_ 18 23 524287 ?_;refine uz_ 19 24 1048575 ?_;refine uz_ 20 25 2097151 ?_;refine pz_ 21 26 4194303 ?_;refine pz_ 22 4 8388607 ?_;refine done_ (done_of HT_.out (by kernel_rfl)) ?_;(try go_wp2);go_ret;exact ⟨rf_,bg_⟩
def spec_l2Num.l0:Nat->Int->ByteArray->Bool->Option (ByteArray)
 | 0,_,_,_=>none
 | k+1,x0,x3,x4=>if x0=0 then (if x4=true then (if 1+x3.size<=9223372036854775807 then (some ((⟨#[45]⟩:ByteArray)++x3)) else (none)) else (some x3)) else (if (Int.tmod x0 10)<0 then ((some (([(wrap64 (48+(wrap64 (-(Int.tmod x0 10))))) % 256]:List Int):List Int)).bind fun y1001=>(if (strOfNums y1001).size+x3.size<=9223372036854775807 then (spec_l2Num.l0 k (wrap64 (Int.tdiv x0 10)) ((strOfNums y1001)++x3) x4) else (none))) else ((some (([(wrap64 (48+(Int.tmod x0 10))) % 256]:List Int):List Int)).bind fun y1004=>(if (strOfNums y1004).size+x3.size<=9223372036854775807 then (spec_l2Num.l0 k (wrap64 (Int.tdiv x0 10)) ((strOfNums y1004)++x3) x4) else (none))))
def spec_l2Num.f (k:Nat)(a0:Int):Option (ByteArray):=if a0=0 then (some (⟨#[48]⟩:ByteArray)) else (spec_l2Num.l0 k a0 (⟨#[]⟩:ByteArray) (decide (a0<0)))
theorem spec_l2Num.mono_l:∀ k,(∀ y0 y1 y2,LeO (spec_l2Num.l0 k y0 y1 y2) (spec_l2Num.l0 (k+1) y0 y1 y2))
 | 0=>fun _ _ _ r h=>by simp [spec_l2Num.l0] at h
 | k+1=>by
  have ih0:=spec_l2Num.mono_l k
  ·intro y0 y1 y2
   unfold spec_l2Num.l0
   repeat' with_reducible first|apply ih0|apply LeO.refl|apply LeO.none|apply LeO.ite|refine LeO.bind ?_ (fun _ => ?_)
theorem spec_l2Num.mono:∀ a0 k,LeO (spec_l2Num.f k a0) (spec_l2Num.f (k+1) a0):=by
 intro a0 k
 have ih0:=spec_l2Num.mono_l k
 unfold spec_l2Num.f
 repeat' with_reducible first|apply ih0|apply LeO.refl|apply LeO.none|apply LeO.ite|refine LeO.bind ?_ (fun _ => ?_)
theorem spec_l2Num.calls (k:Nat)(a0:Int)(r:ByteArray)(w:World)(h:spec_l2Num.f k a0=some r) :
  Calls Tryz.prog 58 #[.int .i64 a0] w fun e w'=>e = .returned (.string r)/\Below w.heap.size w w':=by
 have HB:=am_ (Below.refl w.heap.size w);have H:=h;clear h;unfold spec_l2Num.f at H
 by_cases c2:a0=0
 ·rw [if_pos c2] at H;have c2b0:=eb_ c2;have c2b1:=en_ c2;clear c2;obtain rfl:=si_ H;go_enter Tryz.func58,Tryz.ntmps58;go_wp2;go_ret;exact ⟨rf_,bl_⟩
 ·rw [if_neg c2] at H;have c2b0:=nb_ c2;have c2b1:=nn_ c2;have H':=am_ H;clear H;go_enter Tryz.func58,Tryz.ntmps58;go_wp2
  go_loopg [0,3] k (fun kq v0 v3 w'=>∃ (x0_1:Int) (x3_1:ByteArray),v0 = .int .i64 x0_1/\v3 = .string x3_1/\Aside0 (spec_l2Num.l0 kq x0_1 x3_1 (decide (a0<0))=some r)/\Aside0 (kq<=k)/\Aside0 (Below w.heap.size w w'))
  case atStart=>exact ⟨(a0),((⟨#[]⟩:ByteArray)),rs_,rs_,H',⟨Nat.le_refl _⟩,⟨bl_⟩⟩
  case round =>
   clear H';(try clear c2);(try clear c2b0);(try clear c2b1);obtain ⟨x0_1,x3_1,rfl,rfl,HA,HK1,HB⟩:=hrel
   cases gk with
   | zero=>exact absurd HA.out (by simp [spec_l2Num.l0])
   | succ k1 =>
    have H:=HA.out;clear HA;simp only [spec_l2Num.l0] at H
    by_cases c3:x0_1=0
    ·rw [if_pos c3] at H;have c3b0:=eb_ c3;have c3b1:=en_ c3;clear c3
     by_cases c4:(decide (a0<0))=true
     ·rw [if_pos c4] at H;have c4b0:(decide (a0<0))=true:=c4;(try have c4b9:a0<0:=of_decide_eq_true c4b0);clear c4;replace H:=is_ H;obtain ⟨c5,H⟩:=H;have c5b0:=eq_true c5;have c5b1:=decide_eq_true c5;(try have c5b2:=eq_false (Nat.not_lt.2 c5));obtain rfl:=si_ H;go_wp2;go_ret;exact ⟨rf_,bl_⟩
     ·rw [if_neg c4] at H;have c4b0:(decide (a0<0))=false:=by simpa using c4
      (try have c4b9:¬ (a0<0):=of_decide_eq_false c4b0);clear c4;obtain rfl:=si_ H;go_wp2;go_ret;exact ⟨rf_,bl_⟩
    ·rw [if_neg c3] at H;have c3b0:=nb_ c3;have c3b1:=nn_ c3
     by_cases c6:(Int.tmod x0_1 10)<0
     ·rw [if_pos c6] at H;have c6b0:=decide_eq_true c6;clear c6;obtain ⟨y1001,hy1001⟩:∃ y_:List Int,y_=(([(wrap64 (48+(wrap64 (-(Int.tmod x0_1 10))))) % 256]:List Int)):=⟨_,rfl⟩;replace H:(if (strOfNums y1001).size+x3_1.size<=9223372036854775807 then (spec_l2Num.l0 k1 (wrap64 (Int.tdiv x0_1 10)) ((strOfNums y1001)++x3_1) (decide (a0<0))) else (none))=some r:=by first|(rw [hy1001];with_reducible exact H)|(have H2_:=(Option.bind_some _ _).symm.trans H;rw [hy1001];with_reducible exact H2_)|(have H2_:=(Option.bind_some _ _).symm.trans H;with_reducible exact H2_)|with_reducible exact H|(rw [hy1001];exact H)|exact H
      have Ny1001:=am_ hy1001;clear hy1001;replace H:=is_ H;obtain ⟨c7,H⟩:=H;have c7b0:=eq_true c7;have c7b1:=decide_eq_true c7;(try have c7b2:=eq_false (Nat.not_lt.2 c7));have H':=am_ H;clear H;go_wp2_with (first|((with_reducible refine gate_dst (N:=21) rfl ?_);refine Kd.R_lit (Kd.int .u8) _ 5 ?hg (N:=21) ?hd (xs:=([(wrap64 (48+(wrap64 (-(Int.tmod x0_1 10))))) % 256]:List Int)) (inner:=[.int .u8 ((wrap64 (48+(wrap64 (-(Int.tmod x0_1 10))))) % 256)]) (ok:=fun _=>True) (okp:=fun _=>True) ?hr ?hp (fun _ hk=>hk) trivial (Below.refl _ _) (Nat.le_refl _) (by simp) ?_;(case hd=>rfl);(case hg=>rfl);(case hr=>first|(go_simp;done)|(go_simp;rfl));(case hp=>exact (Reps.one (show Kd.M (Kd.int .u8) _ _ _ ((wrap64 (48+(wrap64 (-(Int.tmod x0_1 10))))) % 256) [.int .u8 ((wrap64 (48+(wrap64 (-(Int.tmod x0_1 10))))) % 256)] from rfl) (Reps.none _ _)));intro v1002 w8 ho9 hb hg_ hnew_;clear hg_ hnew_;(first|rw [← Ny1001.out] at ho9|(simp only [Int.reduceToNat] at ho9;rw [← Ny1001.out] at ho9));have HO1003:=am_ (Kd.R_lower ho9 (below_size bl_));replace HB:=am_ (below_step bl_ hb);clear hb ho9;have hcv10:=own_string (P:=Tryz.prog) Tryz.underlying89 Tryz.underlying5 Tryz.underlying9 (Kd.own_of_R HO1003.out)));go_roundg k1
      case measure=>have:=HK1.out;omega
      case rel=>exact ⟨(wrap64 (Int.tdiv x0_1 10)),((strOfNums y1001)++x3_1),rs_,rs_,H',⟨by have:=HK1.out;omega⟩,⟨bl_⟩⟩
     ·rw [if_neg c6] at H;have c6b0:=decide_eq_false c6;clear c6;obtain ⟨y1004,hy1004⟩:∃ y_:List Int,y_=(([(wrap64 (48+(Int.tmod x0_1 10))) % 256]:List Int)):=⟨_,rfl⟩;replace H:(if (strOfNums y1004).size+x3_1.size<=9223372036854775807 then (spec_l2Num.l0 k1 (wrap64 (Int.tdiv x0_1 10)) ((strOfNums y1004)++x3_1) (decide (a0<0))) else (none))=some r:=by first|(rw [hy1004];with_reducible exact H)|(have H2_:=(Option.bind_some _ _).symm.trans H;rw [hy1004];with_reducible exact H2_)|(have H2_:=(Option.bind_some _ _).symm.trans H;with_reducible exact H2_)|with_reducible exact H|(rw [hy1004];exact H)|exact H
      have Ny1004:=am_ hy1004;clear hy1004;replace H:=is_ H;obtain ⟨c11,H⟩:=H;have c11b0:=eq_true c11;have c11b1:=decide_eq_true c11;(try have c11b2:=eq_false (Nat.not_lt.2 c11));have H':=am_ H;clear H;go_wp2_with (first|((with_reducible refine gate_dst (N:=21) rfl ?_);refine Kd.R_lit (Kd.int .u8) _ 5 ?hg (N:=21) ?hd (xs:=([(wrap64 (48+(Int.tmod x0_1 10))) % 256]:List Int)) (inner:=[.int .u8 ((wrap64 (48+(Int.tmod x0_1 10))) % 256)]) (ok:=fun _=>True) (okp:=fun _=>True) ?hr ?hp (fun _ hk=>hk) trivial (Below.refl _ _) (Nat.le_refl _) (by simp) ?_;(case hd=>rfl);(case hg=>rfl);(case hr=>first|(go_simp;done)|(go_simp;rfl));(case hp=>exact (Reps.one (show Kd.M (Kd.int .u8) _ _ _ ((wrap64 (48+(Int.tmod x0_1 10))) % 256) [.int .u8 ((wrap64 (48+(Int.tmod x0_1 10))) % 256)] from rfl) (Reps.none _ _)));intro v1005 w12 ho13 hb hg_ hnew_;clear hg_ hnew_;(first|rw [← Ny1004.out] at ho13|(simp only [Int.reduceToNat] at ho13;rw [← Ny1004.out] at ho13));have HO1006:=am_ (Kd.R_lower ho13 (below_size bl_));replace HB:=am_ (below_step bl_ hb);clear hb ho13;have hcv14:=own_string (P:=Tryz.prog) Tryz.underlying89 Tryz.underlying5 Tryz.underlying9 (Kd.own_of_R HO1006.out)));go_roundg k1
      case measure=>have:=HK1.out;omega
      case rel=>exact ⟨(wrap64 (Int.tdiv x0_1 10)),((strOfNums y1004)++x3_1),rs_,rs_,H',⟨by have:=HK1.out;omega⟩,⟨bl_⟩⟩
end Go.Proofs.YtfdbbpnmnogddaaGreatDoor.Pr
