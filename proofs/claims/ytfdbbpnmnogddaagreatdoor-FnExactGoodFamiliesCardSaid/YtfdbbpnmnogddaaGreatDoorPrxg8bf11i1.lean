/- Functions of the given program as plain Lean functions, and that the machine's calls come to them; written by a program of this session; no condition but those that each theorem states. -/
import Derived.Test.YtfdbbpnmnogddaaGreatDoorShelf
import Derived.Test.YtfdbbpnmnogddaaGreatDoorWRepsOne
import Derived.Test.YtfdbbpnmnogddaaGreatDoorPrx0
import Derived.Test.YtfdbbpnmnogddaaGreatDoorPrxe1
set_option maxHeartbeats 8000000
set_option maxRecDepth 100000
namespace Go.Proofs.YtfdbbpnmnogddaaGreatDoor.Pr
open Go.RowKit Go.Proofs.YtfdbbpnmnogddaaGreatDoorW.PrintWords Go.Proofs.YtfdbbpnmnogddaaGreatDoorW.PrintLast Go.Proofs.YtfdbbpnmnogddaaGreatDoorW.PrintMore
attribute [local go_sem] max2_int min2_int max_two min_two max_three min_three max_four min_four
set_option linter.unusedVariables false
set_option linter.unusedSimpArgs false
attribute [local go_sem high] eqA70
def impl_digitByte.f (a0:Int):Option (Bool):=if a0>=48 then (some (decide (a0<=57))) else (some false)
theorem impl_digitByte.calls (a0:Int)(r:Bool)(w:World)(h:impl_digitByte.f a0=some r) :
  Calls Tryz.prog 41 #[.int .u8 a0] w fun e w'=>e = .returned (.bool r)/\Drawn0 w w':=by
 have H:=h;clear h;unfold impl_digitByte.f at H
 by_cases c2:a0>=48
 ·rw [if_pos c2] at H;have c2b0:decide (48<=a0)=true:=decide_eq_true c2;clear c2;obtain rfl:=si_ H;go_enter Tryz.func41,Tryz.ntmps41;go_wp2;go_ret;exact ⟨by first|rfl|(simp;done)|(simp [*];done),by repeat (first|exact Drawn0.refl _|apply Drawn0.step)⟩
 ·rw [if_neg c2] at H;have c2b0:decide (48<=a0)=false:=decide_eq_false c2;clear c2;obtain rfl:=si_ H;go_enter Tryz.func41,Tryz.ntmps41;go_wp2;go_ret;exact ⟨by first|rfl|(simp;done)|(simp [*];done),by repeat (first|exact Drawn0.refl _|apply Drawn0.step)⟩
def impl_letterByte.f (a0:Int):Option (Bool):=if a0>=97 then (if a0<=122 then (some true) else (if a0>=65 then (some (decide (a0<=90))) else (some false))) else (if a0>=65 then (some (decide (a0<=90))) else (some false))
theorem impl_letterByte.calls (a0:Int)(r:Bool)(w:World)(h:impl_letterByte.f a0=some r) :
  Calls Tryz.prog 61 #[.int .u8 a0] w fun e w'=>e = .returned (.bool r)/\Drawn0 w w':=by
 have H:=h;clear h;unfold impl_letterByte.f at H
 by_cases c2:a0>=97
 ·rw [if_pos c2] at H;have c2b0:decide (97<=a0)=true:=decide_eq_true c2;clear c2
  by_cases c3:a0<=122
  ·rw [if_pos c3] at H;have c3b0:=decide_eq_true c3;clear c3;obtain rfl:=si_ H;go_enter Tryz.func61,Tryz.ntmps61;go_wp2;go_ret;exact ⟨by first|rfl|(simp;done)|(simp [*];done),by repeat (first|exact Drawn0.refl _|apply Drawn0.step)⟩
  ·rw [if_neg c3] at H;have c3b0:=decide_eq_false c3;clear c3
   by_cases c4:a0>=65
   ·rw [if_pos c4] at H;have c4b0:decide (65<=a0)=true:=decide_eq_true c4;clear c4;obtain rfl:=si_ H;go_enter Tryz.func61,Tryz.ntmps61;go_wp2;go_ret;exact ⟨by first|rfl|(simp;done)|(simp [*];done),by repeat (first|exact Drawn0.refl _|apply Drawn0.step)⟩
   ·rw [if_neg c4] at H;have c4b0:decide (65<=a0)=false:=decide_eq_false c4;clear c4;obtain rfl:=si_ H;go_enter Tryz.func61,Tryz.ntmps61;go_wp2;go_ret;exact ⟨by first|rfl|(simp;done)|(simp [*];done),by repeat (first|exact Drawn0.refl _|apply Drawn0.step)⟩
 ·rw [if_neg c2] at H;have c2b0:decide (97<=a0)=false:=decide_eq_false c2;clear c2
  by_cases c5:a0>=65
  ·rw [if_pos c5] at H;have c5b0:decide (65<=a0)=true:=decide_eq_true c5;clear c5;obtain rfl:=si_ H;go_enter Tryz.func61,Tryz.ntmps61;go_wp2;go_ret;exact ⟨by first|rfl|(simp;done)|(simp [*];done),by repeat (first|exact Drawn0.refl _|apply Drawn0.step)⟩
  ·rw [if_neg c5] at H;have c5b0:decide (65<=a0)=false:=decide_eq_false c5;clear c5;obtain rfl:=si_ H;go_enter Tryz.func61,Tryz.ntmps61;go_wp2;go_ret;exact ⟨by first|rfl|(simp;done)|(simp [*];done),by repeat (first|exact Drawn0.refl _|apply Drawn0.step)⟩
def impl_wordByte.f (a0:Int):Option (Bool):=(impl_letterByte.f a0).bind fun t1001=>(if t1001=true then (some true) else ((impl_digitByte.f a0).bind fun t1002=>(if t1002=true then (some true) else (some (a0==95)))))
theorem impl_wordByte.calls (a0:Int)(r:Bool)(w:World)(h:impl_wordByte.f a0=some r) :
  Calls Tryz.prog 42 #[.int .u8 a0] w fun e w'=>e = .returned (.bool r)/\Drawn0 w w':=by
 have H:=h;clear h;unfold impl_wordByte.f at H;replace H:=bs_ H;obtain ⟨t1001,A2,H⟩:=H
 by_cases c3:t1001=true
 ·subst c3;replace H:=it_ H;obtain rfl:=si_ H;go_enter Tryz.func42,Tryz.ntmps42;go_wp2_with (first|((with_reducible refine gate_callee (f:=61) rfl ?_);refine gl_ 4 Tryz.func61 #[.int .u8 a0] ?_;(with_reducible refine (impl_letterByte.calls a0 true _ A2.out).mono ?_);rintro e w' ⟨rfl,⟨nd,rfl⟩⟩;refine ⟨_,rfl,?_⟩));go_ret;exact ⟨by first|rfl|(simp;done)|(simp [*];done),by repeat (first|exact Drawn0.refl _|apply Drawn0.step)⟩
 ·replace c3:=Bool.eq_false_iff.mpr c3;subst c3;replace H:=if_ H;replace H:=bs_ H;obtain ⟨t1002,A4,H⟩:=H
  by_cases c5:t1002=true
  ·subst c5;replace H:=it_ H;obtain rfl:=si_ H;go_enter Tryz.func42,Tryz.ntmps42;go_wp2_with (first|((with_reducible refine gate_callee (f:=61) rfl ?_);refine gl_ 4 Tryz.func61 #[.int .u8 a0] ?_;(with_reducible refine (impl_letterByte.calls a0 false _ A2.out).mono ?_);rintro e w' ⟨rfl,⟨nd,rfl⟩⟩;refine ⟨_,rfl,?_⟩)|(go_at_call 41;(with_reducible refine (impl_digitByte.calls a0 true _ A4.out).mono ?_);rintro e w' ⟨rfl,⟨nd,rfl⟩⟩));go_ret;exact ⟨by first|rfl|(simp;done)|(simp [*];done),by repeat (first|exact Drawn0.refl _|apply Drawn0.step)⟩
  ·replace c5:=Bool.eq_false_iff.mpr c5;subst c5;replace H:=if_ H;obtain rfl:=si_ H;go_enter Tryz.func42,Tryz.ntmps42;go_wp2_with (first|((with_reducible refine gate_callee (f:=61) rfl ?_);refine gl_ 4 Tryz.func61 #[.int .u8 a0] ?_;(with_reducible refine (impl_letterByte.calls a0 false _ A2.out).mono ?_);rintro e w' ⟨rfl,⟨nd,rfl⟩⟩;refine ⟨_,rfl,?_⟩)|(go_at_call 41;(with_reducible refine (impl_digitByte.calls a0 false _ A4.out).mono ?_);rintro e w' ⟨rfl,⟨nd,rfl⟩⟩));go_ret;exact ⟨by first|rfl|(simp;done)|(simp [*];done),by repeat (first|exact Drawn0.refl _|apply Drawn0.step)⟩
mutual
def impl_isName.j0:Nat->ByteArray->Bool->Option (Bool)
 | 0,_,_=>none
 | k+1,x0,x15=>if x15=true then (some false) else (impl_isName.l0 k x0 (x0.size:Int) 0)
def impl_isName.l0:Nat->ByteArray->Int->Int->Option (Bool)
 | 0,_,_,_=>none
 | k+1,x0,x17,x18=>if x18<x17 then (if 0<=x18 then (if x18<(x0.size:Int) then ((impl_wordByte.f (bt x0 x18)).bind fun t1002=>(if t1002=true then (impl_isName.l0 k x0 x17 (wrap64 (x18+1))) else (some false))) else (none)) else (none)) else (some true)
end
def impl_isName.f (k:Nat)(a0:ByteArray):Option (Bool):=if a0.toList=([]:List UInt8) then (impl_isName.j0 k a0 true) else (if (a0.size:Int)>40 then (impl_isName.j0 k a0 true) else (if 0<(a0.size:Int) then ((impl_digitByte.f (bt a0 0)).bind fun t1001=>(impl_isName.j0 k a0 t1001)) else (none)))
theorem impl_isName.mono_l:∀ k,(∀ y0 y1,LeO (impl_isName.j0 k y0 y1) (impl_isName.j0 (k+1) y0 y1))/\(∀ y0 y1 y2,LeO (impl_isName.l0 k y0 y1 y2) (impl_isName.l0 (k+1) y0 y1 y2))
 | 0=>⟨fun _ _ r h=>by simp [impl_isName.j0] at h,fun _ _ _ r h=>by simp [impl_isName.l0] at h⟩
 | k+1=>by
  obtain ⟨ih0,ih1⟩:=impl_isName.mono_l k
  refine ⟨?_,?_⟩
  ·intro y0 y1
   unfold impl_isName.j0
   repeat' with_reducible first|apply ih0|apply ih1|apply LeO.refl|apply LeO.none|apply LeO.ite|refine LeO.bind ?_ (fun _ => ?_)
  ·intro y0 y1 y2
   unfold impl_isName.l0
   repeat' with_reducible first|apply ih0|apply ih1|apply LeO.refl|apply LeO.none|apply LeO.ite|refine LeO.bind ?_ (fun _ => ?_)
theorem impl_isName.mono:∀ a0 k,LeO (impl_isName.f k a0) (impl_isName.f (k+1) a0):=by
 intro a0 k
 obtain ⟨ih0,ih1⟩:=impl_isName.mono_l k
 unfold impl_isName.f
 repeat' with_reducible first|apply ih0|apply ih1|apply LeO.refl|apply LeO.none|apply LeO.ite|refine LeO.bind ?_ (fun _ => ?_)
theorem impl_isName.calls (k:Nat)(a0:ByteArray)(r:Bool)(w:World)(h:impl_isName.f k a0=some r) :
  Calls Tryz.prog 22 #[.string a0] w fun e w'=>e = .returned (.bool r)/\Drawn0 w w':=by
 have H:=h;clear h;unfold impl_isName.f at H;have HC2:=am_ H;clear H;go_enter Tryz.func22,Tryz.ntmps22;go_upto_region 1 with (fail)
 go_cut [15] (fun v15 wc=>∃ (kq:Nat) (x15_1:Bool),v15 = .bool x15_1/\Aside0 (impl_isName.j0 kq a0 x15_1=some r)/\Aside0 (kq<=k)/\Drawn0 w wc)
 case first =>
  have H:=HC2.out;clear HC2
  by_cases c3:a0.toList=([]:List UInt8)
  ·rw [if_pos c3] at H;have c3b0:=eb_ c3;have c3b1:=en_ c3;clear c3;(first|rw [c3b0]|(simp only [i64_w,i32_w];rw [c3b0])|skip);have H':=am_ H;clear H;go_wp2;go_meet
   case rel=>exact ⟨_,(true),rs_,H',⟨by first|omega|exact Nat.le_refl _⟩,by repeat (first|exact Drawn0.refl _|apply Drawn0.step)⟩
  ·rw [if_neg c3] at H;have c3b0:=nb_ c3;have c3b1:=nn_ c3;(first|rw [c3b0]|(simp only [i64_w,i32_w];rw [c3b0])|skip)
   by_cases c4:(a0.size:Int)>40
   ·rw [if_pos c4] at H;have c4b0:=dg_ c4;have c4b1:decide (40<a0.size)=true:=decide_eq_true (by omega);clear c4;have H':=am_ H;clear H;go_wp2;go_meet
    case rel=>exact ⟨_,(true),rs_,H',⟨by first|omega|exact Nat.le_refl _⟩,by repeat (first|exact Drawn0.refl _|apply Drawn0.step)⟩
   ·rw [if_neg c4] at H;have c4b0:=df_ c4;have c4b1:decide (40<a0.size)=false:=decide_eq_false (by omega);clear c4;replace H:=is_ H;obtain ⟨c5,H⟩:=H;have c5b0:=decide_eq_true c5;have c5b1:decide (0<a0.size)=true:=decide_eq_true (by omega);clear c5;replace H:=bs_ H;obtain ⟨t1001,A7,H⟩:=H;have H':=am_ H;clear H;have p6:0<=(0:Int):=(by omega);have q6:0<a0.size:=(by have:(0:Int)<(a0.size:Int):=od_;omega);have hx6:∀ h:0<a0.size,((a0[0]'h).toNat:Int)=bt a0 0:=bt_at a0 0;clear p6;have qi6:(0<(a0.size:Int))=True:=eq_true (od_);replace q6:=eq_true q6;go_wp2_with (first|(go_at_call 41;(with_reducible refine (impl_digitByte.calls (bt a0 0) t1001 _ A7.out).mono ?_);rintro e w' ⟨rfl,⟨nd,rfl⟩⟩));go_meet
    case rel=>exact ⟨_,(t1001),rs_,H',⟨by first|omega|exact Nat.le_refl _⟩,by repeat (first|exact Drawn0.refl _|apply Drawn0.step)⟩
 case rest =>
  clear HC2;obtain ⟨kq,x15_1,rfl,HA,HJ1,⟨mc1,rfl⟩⟩:=hcut
  cases kq with
  | zero=>exact absurd HA.out (by simp [impl_isName.j0])
  | succ kj1 =>
   have H:=HA.out;clear HA;simp only [impl_isName.j0] at H
   by_cases c8:x15_1=true
   ·subst c8;replace H:=it_ H;obtain rfl:=si_ H;go_wp2;go_ret;exact ⟨by first|rfl|(simp;done)|(simp [*];done),by repeat (first|exact Drawn0.refl _|apply Drawn0.step)⟩
   ·replace c8:=Bool.eq_false_iff.mpr c8;subst c8;replace H:=if_ H;have H':=am_ H;clear H;go_wp2
    go_loopg [18] kj1 (fun kq v18 w'=>∃ (x18_2:Int),v18 = .int .i64 x18_2/\Aside0 (impl_isName.l0 kq a0 (a0.size:Int) x18_2=some r)/\Aside0 (kq<=kj1)/\Drawn0 w w')
    case atStart=>exact ⟨(0),rs_,H',⟨Nat.le_refl _⟩,by repeat (first|exact Drawn0.refl _|apply Drawn0.step)⟩
    case round =>
     clear H';(try clear c8);obtain ⟨x18_2,rfl,HA,HK2,⟨m2,rfl⟩⟩:=hrel
     cases gk with
     | zero=>exact absurd HA.out (by simp [impl_isName.l0])
     | succ k2 =>
      have H:=HA.out;clear HA;simp only [impl_isName.l0] at H
      by_cases c9:x18_2<(a0.size:Int)
      ·rw [if_pos c9] at H;have c9b0:=decide_eq_true c9;clear c9;replace H:=is_ H;obtain ⟨c10,H⟩:=H;have c10b0:=decide_eq_true c10;clear c10;replace H:=is_ H;obtain ⟨c11,H⟩:=H;have c11b0:=decide_eq_true c11;clear c11;replace H:=bs_ H;obtain ⟨t1002,A13,H⟩:=H
       by_cases c14:t1002=true
       ·subst c14;replace H:=it_ H;have H':=am_ H;clear H;have p12:0<=(x18_2:Int):=od_;have q12:x18_2<(a0.size:Int):=od_;have hx12:=bt_at a0 x18_2;replace p12:=eq_true p12;replace q12:=eq_true q12;go_wp2_with (first|((with_reducible refine gate_callee (f:=42) rfl ?_);refine gl_ 24 Tryz.func42 #[.int .u8 (bt a0 x18_2)] ?_;(with_reducible refine (impl_wordByte.calls (bt a0 x18_2) true _ A13.out).mono ?_);rintro e w' ⟨rfl,⟨nd,rfl⟩⟩;refine ⟨_,rfl,?_⟩));go_roundg k2
        case measure=>have:=HJ1.out;have:=HK2.out;omega
        case rel=>exact ⟨(wrap64 (x18_2+1)),rs_,H',⟨by have:=HJ1.out;have:=HK2.out;omega⟩,by repeat (first|exact Drawn0.refl _|apply Drawn0.step)⟩
       ·replace c14:=Bool.eq_false_iff.mpr c14;subst c14;replace H:=if_ H;obtain rfl:=si_ H;have p12:0<=(x18_2:Int):=od_;have q12:x18_2<(a0.size:Int):=od_;have hx12:=bt_at a0 x18_2;replace p12:=eq_true p12;replace q12:=eq_true q12;go_wp2_with (first|((with_reducible refine gate_callee (f:=42) rfl ?_);refine gl_ 24 Tryz.func42 #[.int .u8 (bt a0 x18_2)] ?_;(with_reducible refine (impl_wordByte.calls (bt a0 x18_2) false _ A13.out).mono ?_);rintro e w' ⟨rfl,⟨nd,rfl⟩⟩;refine ⟨_,rfl,?_⟩));go_ret;exact ⟨by first|rfl|(simp;done)|(simp [*];done),by repeat (first|exact Drawn0.refl _|apply Drawn0.step)⟩
      ·rw [if_neg c9] at H;have c9b0:=decide_eq_false c9;clear c9;obtain rfl:=si_ H;go_wp2;go_ret;exact ⟨by first|rfl|(simp;done)|(simp [*];done),by repeat (first|exact Drawn0.refl _|apply Drawn0.step)⟩
def impl_printed.l0:Nat->ByteArray->Int->Int->Option (Bool)
 | 0,_,_,_=>none
 | k+1,x0,x11,x12=>if x12<x11 then (if 0<=x12 then (if x12<(x0.size:Int) then (if (bt x0 x12)<32 then (some false) else (if (bt x0 x12)>126 then (some false) else (impl_printed.l0 k x0 x11 (wrap64 (x12+1))))) else (none)) else (none)) else (some true)
def impl_printed.f (k:Nat)(a0:ByteArray)(a1:Int):Option (Bool):=if (a0.size:Int)>a1 then (some false) else (impl_printed.l0 k a0 (a0.size:Int) 0)
theorem impl_printed.mono_l:∀ k,(∀ y0 y1 y2,LeO (impl_printed.l0 k y0 y1 y2) (impl_printed.l0 (k+1) y0 y1 y2))
 | 0=>fun _ _ _ r h=>by simp [impl_printed.l0] at h
 | k+1=>by
  have ih0:=impl_printed.mono_l k
  ·intro y0 y1 y2
   unfold impl_printed.l0
   repeat' with_reducible first|apply ih0|apply LeO.refl|apply LeO.none|apply LeO.ite|refine LeO.bind ?_ (fun _ => ?_)
theorem impl_printed.mono:∀ a0 a1 k,LeO (impl_printed.f k a0 a1) (impl_printed.f (k+1) a0 a1):=by
 intro a0 a1 k
 have ih0:=impl_printed.mono_l k
 unfold impl_printed.f
 repeat' with_reducible first|apply ih0|apply LeO.refl|apply LeO.none|apply LeO.ite|refine LeO.bind ?_ (fun _ => ?_)
theorem impl_printed.calls (k:Nat)(a0:ByteArray)(a1:Int)(r:Bool)(w:World)(h:impl_printed.f k a0 a1=some r) :
  Calls Tryz.prog 23 #[.string a0,.int .i64 a1] w fun e w'=>e = .returned (.bool r)/\Drawn0 w w':=by
 have H:=h;clear h;unfold impl_printed.f at H
 by_cases c3:(a0.size:Int)>a1
 ·rw [if_pos c3] at H;have c3b0:=dg_ c3;clear c3;obtain rfl:=si_ H;go_enter Tryz.func23,Tryz.ntmps23;go_wp2;go_ret;exact ⟨by first|rfl|(simp;done)|(simp [*];done),by repeat (first|exact Drawn0.refl _|apply Drawn0.step)⟩
 ·rw [if_neg c3] at H;have c3b0:=df_ c3;clear c3;have H':=am_ H;clear H;go_enter Tryz.func23,Tryz.ntmps23;go_wp2
  go_loopg [12] k (fun kq v12 w'=>∃ (x12_1:Int),v12 = .int .i64 x12_1/\Aside0 (impl_printed.l0 kq a0 (a0.size:Int) x12_1=some r)/\Aside0 (kq<=k)/\Drawn0 w w')
  case atStart=>exact ⟨(0),rs_,H',⟨Nat.le_refl _⟩,by repeat (first|exact Drawn0.refl _|apply Drawn0.step)⟩
  case round =>
   clear H';(try clear c3);(try clear c3b0);obtain ⟨x12_1,rfl,HA,HK1,⟨m1,rfl⟩⟩:=hrel
   cases gk with
   | zero=>exact absurd HA.out (by simp [impl_printed.l0])
   | succ k1 =>
    have H:=HA.out;clear HA;simp only [impl_printed.l0] at H
    by_cases c4:x12_1<(a0.size:Int)
    ·rw [if_pos c4] at H;have c4b0:=decide_eq_true c4;clear c4;replace H:=is_ H;obtain ⟨c5,H⟩:=H;have c5b0:=decide_eq_true c5;clear c5;replace H:=is_ H;obtain ⟨c6,H⟩:=H;have c6b0:=decide_eq_true c6;clear c6
     by_cases c8:(bt a0 x12_1)<32
     ·rw [if_pos c8] at H;have c8b0:=decide_eq_true c8;clear c8;obtain rfl:=si_ H;have p7:0<=(x12_1:Int):=od_;have q7:x12_1<(a0.size:Int):=od_;have hx7:=bt_at a0 x12_1;replace p7:=eq_true p7;replace q7:=eq_true q7;go_wp2;go_ret;exact ⟨by first|rfl|(simp;done)|(simp [*];done),by repeat (first|exact Drawn0.refl _|apply Drawn0.step)⟩
     ·rw [if_neg c8] at H;have c8b0:=decide_eq_false c8;clear c8
      by_cases c10:(bt a0 x12_1)>126
      ·rw [if_pos c10] at H;have c10b0:=dg_ c10;clear c10;obtain rfl:=si_ H;have p7:0<=(x12_1:Int):=od_;have q7:x12_1<(a0.size:Int):=od_;have hx7:=bt_at a0 x12_1;replace p7:=eq_true p7;replace q7:=eq_true q7;have p9:0<=(x12_1:Int):=od_;have q9:x12_1<(a0.size:Int):=od_;have hx9:=bt_at a0 x12_1;replace p9:=eq_true p9;replace q9:=eq_true q9;go_wp2;go_ret;exact ⟨by first|rfl|(simp;done)|(simp [*];done),by repeat (first|exact Drawn0.refl _|apply Drawn0.step)⟩
      ·rw [if_neg c10] at H;have c10b0:=df_ c10;clear c10;have H':=am_ H;clear H;have p7:0<=(x12_1:Int):=od_;have q7:x12_1<(a0.size:Int):=od_;have hx7:=bt_at a0 x12_1;replace p7:=eq_true p7;replace q7:=eq_true q7;have p9:0<=(x12_1:Int):=od_;have q9:x12_1<(a0.size:Int):=od_;have hx9:=bt_at a0 x12_1;replace p9:=eq_true p9;replace q9:=eq_true q9;go_wp2;go_roundg k1
       case measure=>have:=HK1.out;omega
       case rel=>exact ⟨(wrap64 (x12_1+1)),rs_,H',⟨by have:=HK1.out;omega⟩,by repeat (first|exact Drawn0.refl _|apply Drawn0.step)⟩
    ·rw [if_neg c4] at H;have c4b0:=decide_eq_false c4;clear c4;obtain rfl:=si_ H;go_wp2;go_ret;exact ⟨by first|rfl|(simp;done)|(simp [*];done),by repeat (first|exact Drawn0.refl _|apply Drawn0.step)⟩
def impl_isValue.f (k:Nat)(a0:ByteArray):Option (Bool):=if a0.toList=([]:List UInt8) then (some false) else ((impl_printed.f k a0 100).bind fun t1001=>(some t1001))
theorem impl_isValue.mono:∀ a0 k,LeO (impl_isValue.f k a0) (impl_isValue.f (k+1) a0):=by
 intro a0 k
 unfold impl_isValue.f
 repeat' with_reducible first|apply impl_printed.mono|apply LeO.refl|apply LeO.none|apply LeO.ite|refine LeO.bind ?_ (fun _ => ?_)
theorem impl_isValue.calls (k:Nat)(a0:ByteArray)(r:Bool)(w:World)(h:impl_isValue.f k a0=some r) :
  Calls Tryz.prog 62 #[.string a0] w fun e w'=>e = .returned (.bool r)/\Drawn0 w w':=by
 have H:=h;clear h;unfold impl_isValue.f at H
 by_cases c2:a0.toList=([]:List UInt8)
 ·rw [if_pos c2] at H;have c2b0:=eb_ c2;have c2b1:=en_ c2;clear c2;obtain rfl:=si_ H;go_enter Tryz.func62,Tryz.ntmps62;go_wp2;go_ret;exact ⟨by first|rfl|(simp;done)|(simp [*];done),by repeat (first|exact Drawn0.refl _|apply Drawn0.step)⟩
 ·rw [if_neg c2] at H;have c2b0:=nb_ c2;have c2b1:=nn_ c2;replace H:=bs_ H;obtain ⟨t1001,A3,H⟩:=H;obtain rfl:=si_ H;go_enter Tryz.func62,Tryz.ntmps62;go_wp2_with (first|(go_at_call 23;(with_reducible refine (impl_printed.calls k a0 100 t1001 _ A3.out).mono ?_);rintro e w' ⟨rfl,⟨nd,rfl⟩⟩));go_ret;exact ⟨by first|rfl|(simp;done)|(simp [*];done),by repeat (first|exact Drawn0.refl _|apply Drawn0.step)⟩
def impl_GoodLabels.l0:Nat->List (S70)->List (S70)->Int->Int->Option (Bool)
 | 0,_,_,_,_=>none
 | k+1,x0,x8,x9,x10=>if x10<x9 then (if 0<=x10 then (if x10<(x8.length:Int) then ((impl_isName.f k ((rd_T70 x8 x10).f0)).bind fun t1003=>(if t1003=true then ((impl_isValue.f k ((rd_T70 x8 x10).f1)).bind fun t1004=>(if t1004=true then (if x10>0 then (if 0<=(wrap64 (x10-1)) then (if (wrap64 (x10-1))<(x0.length:Int) then (if ((Op.bytesLess (((rd_T70 x0 (wrap64 (x10-1))).f0).toList) (((rd_T70 x8 x10).f0).toList))=true) then (impl_GoodLabels.l0 k x0 x8 x9 (wrap64 (x10+1))) else (some false)) else (none)) else (none)) else (impl_GoodLabels.l0 k x0 x8 x9 (wrap64 (x10+1)))) else (some false))) else (some false))) else (none)) else (none)) else (some true)
def impl_GoodLabels.f (k:Nat)(l0:List (S70)):Option (Bool):=if (l0.length:Int)>20 then (some false) else (impl_GoodLabels.l0 k l0 l0 (l0.length:Int) 0)
theorem impl_GoodLabels.mono_l:∀ k,(∀ y0 y1 y2 y3,LeO (impl_GoodLabels.l0 k y0 y1 y2 y3) (impl_GoodLabels.l0 (k+1) y0 y1 y2 y3))
 | 0=>fun _ _ _ _ r h=>by simp [impl_GoodLabels.l0] at h
 | k+1=>by
  have ih0:=impl_GoodLabels.mono_l k
  ·intro y0 y1 y2 y3
   unfold impl_GoodLabels.l0
   repeat' with_reducible first|apply ih0|apply impl_isName.mono|apply impl_isValue.mono|apply LeO.refl|apply LeO.none|apply LeO.ite|refine LeO.bind ?_ (fun _ => ?_)
theorem impl_GoodLabels.mono:∀ a0 k,LeO (impl_GoodLabels.f k a0) (impl_GoodLabels.f (k+1) a0):=by
 intro a0 k
 have ih0:=impl_GoodLabels.mono_l k
 unfold impl_GoodLabels.f
 repeat' with_reducible first|apply ih0|apply impl_isName.mono|apply impl_isValue.mono|apply LeO.refl|apply LeO.none|apply LeO.ite|refine LeO.bind ?_ (fun _ => ?_)
theorem impl_GoodLabels.calls (k:Nat)(A0:Option Addr)(c0:Nat)(l0:List (S70))(r:Bool)(w:World)(hr0:Kd.C k70 w A0 l0.length l0)(hc0:l0.length<=c0)(h:impl_GoodLabels.f k l0=some r) :
  Calls Tryz.prog 43 #[.slice A0 l0.length c0] w fun e w'=>e = .returned (.bool r)/\Below w.heap.size w w':=by
 have hu70:=Tryz.underlying70;have HR0:=am_ hr0;have HC0:=am_ hc0;clear hr0 hc0;have HB:=am_ (Below.refl w.heap.size w);have H:=h;clear h;unfold impl_GoodLabels.f at H
 by_cases c2:(l0.length:Int)>20
 ·rw [if_pos c2] at H;have c2b0:=dg_ c2;have c2b1:decide (20<l0.length)=true:=decide_eq_true (by omega);clear c2;obtain rfl:=si_ H;go_enter Tryz.func43,Tryz.ntmps43;go_wp2;go_ret;exact ⟨rf_,bl_⟩
 ·rw [if_neg c2] at H;have c2b0:=df_ c2;have c2b1:decide (20<l0.length)=false:=decide_eq_false (by omega);clear c2;have H':=am_ H;clear H;go_enter Tryz.func43,Tryz.ntmps43;go_wp2
  go_loopg [10] k (fun kq v10 w'=>∃ (x10_1:Int),v10 = .int .i64 x10_1/\Aside0 (impl_GoodLabels.l0 kq l0 l0 (l0.length:Int) x10_1=some r)/\Aside0 (kq<=k)/\Aside0 (Below w.heap.size w w'))
  case atStart=>exact ⟨(0),rs_,H',⟨Nat.le_refl _⟩,⟨bl_⟩⟩
  case round =>
   clear H';(try clear c2);(try clear c2b0);(try clear c2b1);obtain ⟨x10_1,rfl,HA,HK1,HB⟩:=hrel
   cases gk with
   | zero=>exact absurd HA.out (by simp [impl_GoodLabels.l0])
   | succ k1 =>
    have H:=HA.out;clear HA;simp only [impl_GoodLabels.l0] at H
    by_cases c3:x10_1<(l0.length:Int)
    ·rw [if_pos c3] at H;have c3b0:=decide_eq_true c3;clear c3;replace H:=is_ H;obtain ⟨c4,H⟩:=H;have c4b0:=decide_eq_true c4;clear c4;replace H:=is_ H;obtain ⟨c5,H⟩:=H;have c5b0:=decide_eq_true c5;clear c5;replace H:=bs_ H;obtain ⟨t1003,A6,H⟩:=H
     by_cases c7:t1003=true
     ·subst c7;replace H:=it_ H;replace H:=bs_ H;obtain ⟨t1004,A8,H⟩:=H
      by_cases c9:t1004=true
      ·subst c9;replace H:=it_ H
       by_cases c10:x10_1>0
       ·rw [if_pos c10] at H;have c10b0:=dg_ c10;clear c10;obtain ⟨ji11,hji11⟩:∃ j_:Int,(wrap64 (x10_1-1))=j_:=⟨_,rfl⟩;replace H:(if 0<=(ji11) then (if (ji11)<(l0.length:Int) then (if ((Op.bytesLess (((rd_T70 l0 (ji11)).f0).toList) (((rd_T70 l0 x10_1).f0).toList))=true) then (impl_GoodLabels.l0 k1 l0 l0 (l0.length:Int) (wrap64 (x10_1+1))) else (some false)) else (none)) else (none))=some r:=by first|(rw [hji11] at H;exact H)|(simp only [hji11] at H ⊢;exact H)
        (try rw [hji11] at A6);(try rw [hji11] at A8);have hji11w:(IntKind.i64.wrap (x10_1-1))=ji11:=(i64_w _).trans hji11;replace H:=is_ H;obtain ⟨c12,H⟩:=H;have c12b0:=decide_eq_true c12;clear c12;replace H:=is_ H;obtain ⟨c13,H⟩:=H;have c13b0:=decide_eq_true c13;clear c13
        by_cases c14:((Op.bytesLess (((rd_T70 l0 (ji11)).f0).toList) (((rd_T70 l0 x10_1).f0).toList))=true)
        ·rw [if_pos c14] at H;have c14b0:(Op.bytesLess (((rd_T70 l0 (ji11)).f0).toList) (((rd_T70 l0 x10_1).f0).toList))=true:=c14;clear c14;have H':=am_ H;clear H;have p1001:0<=(x10_1:Int):=od_;have q1001:x10_1<(l0.length:Int):=od_;obtain ⟨ad1001,e1001,hx1001_0,hx1001_1⟩:=at_T70 HR0.out x10_1 p1001 q1001
         cases e1001
         replace hx1001_0:=kp_ HB hx1001_0;replace hx1001_1:=kp_ HB hx1001_1;replace p1001:=eq_true p1001;replace q1001:=eq_true q1001;go_wp2_with (first|((with_reducible refine gate_dst (N:=4) rfl ?_);refine bx_ 4 #[.string (⟨#[]⟩:ByteArray),.string (⟨#[]⟩:ByteArray)] 70 ?_;intro gb1002 hg w15 hbox hb;have BK1002:=am_ (hbox);have GW1002:=am_ (gs_ hg:w.heap.size<=gb1002);replace HB:=am_ (below_step bl_ hb);have GE1002:=GW1002;clear hb hbox hg;have hz16:=bk2_ BK1002));(repeat (go_quiet (first|(go_at_call 22;(with_reducible refine (impl_isName.calls k1 ((rd_T70 l0 x10_1).f0) true _ A6.out).mono ?_);rintro e w' ⟨rfl,⟨nd,rfl⟩⟩;(try exact dd_))|(go_at_call 62;(with_reducible refine (impl_isValue.calls k1 ((rd_T70 l0 x10_1).f1) true _ A8.out).mono ?_);rintro e w' ⟨rfl,⟨nd,rfl⟩⟩;(try exact dd_);have p1005:0<=((ji11):Int):=od_;have q1005:(ji11)<(l0.length:Int):=od_;obtain ⟨ad1005,e1005,hx1005_0,hx1005_1⟩:=at_T70 HR0.out (ji11) p1005 q1005;obtain rfl:ad1001=ad1005:=(by injection e1005);have hn1005_0:ad1001.block≠gb1002:=hb_ hx1005_0 GW1002;have hn1005_1:ad1001.block≠gb1002:=hb_ hx1005_0 GW1002;replace hx1005_0:=kp_ HB hx1005_0;replace hx1005_1:=kp_ HB hx1005_1;replace hx1005_0:=cf_ gb1002 0 hn1005_0 (.string ((rd_T70 l0 x10_1).f0)) hx1005_0;replace hx1005_1:=cf_ gb1002 0 hn1005_0 (.string ((rd_T70 l0 x10_1).f0)) hx1005_1;replace hx1005_0:=cf_ gb1002 1 hn1005_1 (.string ((rd_T70 l0 x10_1).f1)) hx1005_0;replace hx1005_1:=cf_ gb1002 1 hn1005_1 (.string ((rd_T70 l0 x10_1).f1)) hx1005_1;(try have hy1005_0:=fun (n_:Nat)=>(show ((((w15.drewN n_).setCell ⟨gb1002,0,none⟩ (.string ((rd_T70 l0 x10_1).f0))).setCell ⟨gb1002,1,none⟩ (.string ((rd_T70 l0 x10_1).f1)))).cell? _=some _ from hx1005_0));(try have hy1005_1:=fun (n_:Nat)=>(show ((((w15.drewN n_).setCell ⟨gb1002,0,none⟩ (.string ((rd_T70 l0 x10_1).f0))).setCell ⟨gb1002,1,none⟩ (.string ((rd_T70 l0 x10_1).f1)))).cell? _=some _ from hx1005_1));clear hn1005_0;clear hn1005_1;replace p1005:=eq_true p1005;replace q1005:=eq_true q1005));try go_wp2));go_roundg k1
         case measure=>have:=HK1.out;omega
         case rel=>exact ⟨(wrap64 (x10_1+1)),rs_,H',⟨by have:=HK1.out;omega⟩,⟨bg_⟩⟩
        ·rw [if_neg c14] at H;have c14b0:(Op.bytesLess (((rd_T70 l0 (ji11)).f0).toList) (((rd_T70 l0 x10_1).f0).toList))=false:=by simpa using c14
         clear c14;obtain rfl:=si_ H;have p1001:0<=(x10_1:Int):=od_;have q1001:x10_1<(l0.length:Int):=od_;obtain ⟨ad1001,e1001,hx1001_0,hx1001_1⟩:=at_T70 HR0.out x10_1 p1001 q1001
         cases e1001
         replace hx1001_0:=kp_ HB hx1001_0;replace hx1001_1:=kp_ HB hx1001_1;replace p1001:=eq_true p1001;replace q1001:=eq_true q1001;go_wp2_with (first|((with_reducible refine gate_dst (N:=4) rfl ?_);refine bx_ 4 #[.string (⟨#[]⟩:ByteArray),.string (⟨#[]⟩:ByteArray)] 70 ?_;intro gb1002 hg w17 hbox hb;have BK1002:=am_ (hbox);have GW1002:=am_ (gs_ hg:w.heap.size<=gb1002);replace HB:=am_ (below_step bl_ hb);have GE1002:=GW1002;clear hb hbox hg;have hz18:=bk2_ BK1002));(repeat (go_quiet (first|(go_at_call 22;(with_reducible refine (impl_isName.calls k1 ((rd_T70 l0 x10_1).f0) true _ A6.out).mono ?_);rintro e w' ⟨rfl,⟨nd,rfl⟩⟩;(try exact dd_))|(go_at_call 62;(with_reducible refine (impl_isValue.calls k1 ((rd_T70 l0 x10_1).f1) true _ A8.out).mono ?_);rintro e w' ⟨rfl,⟨nd,rfl⟩⟩;(try exact dd_);have p1005:0<=((ji11):Int):=od_;have q1005:(ji11)<(l0.length:Int):=od_;obtain ⟨ad1005,e1005,hx1005_0,hx1005_1⟩:=at_T70 HR0.out (ji11) p1005 q1005;obtain rfl:ad1001=ad1005:=(by injection e1005);have hn1005_0:ad1001.block≠gb1002:=hb_ hx1005_0 GW1002;have hn1005_1:ad1001.block≠gb1002:=hb_ hx1005_0 GW1002;replace hx1005_0:=kp_ HB hx1005_0;replace hx1005_1:=kp_ HB hx1005_1;replace hx1005_0:=cf_ gb1002 0 hn1005_0 (.string ((rd_T70 l0 x10_1).f0)) hx1005_0;replace hx1005_1:=cf_ gb1002 0 hn1005_0 (.string ((rd_T70 l0 x10_1).f0)) hx1005_1;replace hx1005_0:=cf_ gb1002 1 hn1005_1 (.string ((rd_T70 l0 x10_1).f1)) hx1005_0;replace hx1005_1:=cf_ gb1002 1 hn1005_1 (.string ((rd_T70 l0 x10_1).f1)) hx1005_1;(try have hy1005_0:=fun (n_:Nat)=>(show ((((w17.drewN n_).setCell ⟨gb1002,0,none⟩ (.string ((rd_T70 l0 x10_1).f0))).setCell ⟨gb1002,1,none⟩ (.string ((rd_T70 l0 x10_1).f1)))).cell? _=some _ from hx1005_0));(try have hy1005_1:=fun (n_:Nat)=>(show ((((w17.drewN n_).setCell ⟨gb1002,0,none⟩ (.string ((rd_T70 l0 x10_1).f0))).setCell ⟨gb1002,1,none⟩ (.string ((rd_T70 l0 x10_1).f1)))).cell? _=some _ from hx1005_1));clear hn1005_0;clear hn1005_1;replace p1005:=eq_true p1005;replace q1005:=eq_true q1005));try go_wp2));go_ret;exact ⟨by first|rfl|(simp [errW_none,errW_some] <;> rfl)|(simp only [← hji11];first|rfl|(simp [errW_none,errW_some] <;> rfl))|(simp [*,errW_none,errW_some] <;> rfl)|(simp [*,Go.Proofs.YtfdbbpnmnogddaaGreatDoor.Gt.nil_bne];done),bg_⟩
       ·rw [if_neg c10] at H;have c10b0:=df_ c10;clear c10;have H':=am_ H;clear H;have p1001:0<=(x10_1:Int):=od_;have q1001:x10_1<(l0.length:Int):=od_;obtain ⟨ad1001,e1001,hx1001_0,hx1001_1⟩:=at_T70 HR0.out x10_1 p1001 q1001
        cases e1001
        replace hx1001_0:=kp_ HB hx1001_0;replace hx1001_1:=kp_ HB hx1001_1;replace p1001:=eq_true p1001;replace q1001:=eq_true q1001;go_wp2_with (first|((with_reducible refine gate_dst (N:=4) rfl ?_);refine bx_ 4 #[.string (⟨#[]⟩:ByteArray),.string (⟨#[]⟩:ByteArray)] 70 ?_;intro gb1002 hg w19 hbox hb;have BK1002:=am_ (hbox);have GW1002:=am_ (gs_ hg:w.heap.size<=gb1002);replace HB:=am_ (below_step bl_ hb);have GE1002:=GW1002;clear hb hbox hg;have hz20:=bk2_ BK1002));(repeat (go_quiet (first|(go_at_call 22;(with_reducible refine (impl_isName.calls k1 ((rd_T70 l0 x10_1).f0) true _ A6.out).mono ?_);rintro e w' ⟨rfl,⟨nd,rfl⟩⟩;(try exact dd_))|(go_at_call 62;(with_reducible refine (impl_isValue.calls k1 ((rd_T70 l0 x10_1).f1) true _ A8.out).mono ?_);rintro e w' ⟨rfl,⟨nd,rfl⟩⟩;(try exact dd_)));try go_wp2));go_roundg k1
        case measure=>have:=HK1.out;omega
        case rel=>exact ⟨(wrap64 (x10_1+1)),rs_,H',⟨by have:=HK1.out;omega⟩,⟨bg_⟩⟩
      ·replace c9:=Bool.eq_false_iff.mpr c9;subst c9;replace H:=if_ H;obtain rfl:=si_ H;have p1001:0<=(x10_1:Int):=od_;have q1001:x10_1<(l0.length:Int):=od_;obtain ⟨ad1001,e1001,hx1001_0,hx1001_1⟩:=at_T70 HR0.out x10_1 p1001 q1001
       cases e1001
       replace hx1001_0:=kp_ HB hx1001_0;replace hx1001_1:=kp_ HB hx1001_1;replace p1001:=eq_true p1001;replace q1001:=eq_true q1001;go_wp2_with (first|((with_reducible refine gate_dst (N:=4) rfl ?_);refine bx_ 4 #[.string (⟨#[]⟩:ByteArray),.string (⟨#[]⟩:ByteArray)] 70 ?_;intro gb1002 hg w21 hbox hb;have BK1002:=am_ (hbox);have GW1002:=am_ (gs_ hg:w.heap.size<=gb1002);replace HB:=am_ (below_step bl_ hb);have GE1002:=GW1002;clear hb hbox hg;have hz22:=bk2_ BK1002));(repeat (go_quiet (first|(go_at_call 22;(with_reducible refine (impl_isName.calls k1 ((rd_T70 l0 x10_1).f0) true _ A6.out).mono ?_);rintro e w' ⟨rfl,⟨nd,rfl⟩⟩;(try exact dd_))|(go_at_call 62;(with_reducible refine (impl_isValue.calls k1 ((rd_T70 l0 x10_1).f1) false _ A8.out).mono ?_);rintro e w' ⟨rfl,⟨nd,rfl⟩⟩;(try exact dd_)));try go_wp2));go_ret;exact ⟨rf_,bg_⟩
     ·replace c7:=Bool.eq_false_iff.mpr c7;subst c7;replace H:=if_ H;obtain rfl:=si_ H;have p1001:0<=(x10_1:Int):=od_;have q1001:x10_1<(l0.length:Int):=od_;obtain ⟨ad1001,e1001,hx1001_0,hx1001_1⟩:=at_T70 HR0.out x10_1 p1001 q1001
      cases e1001
      replace hx1001_0:=kp_ HB hx1001_0;replace hx1001_1:=kp_ HB hx1001_1;replace p1001:=eq_true p1001;replace q1001:=eq_true q1001;go_wp2_with (first|((with_reducible refine gate_dst (N:=4) rfl ?_);refine bx_ 4 #[.string (⟨#[]⟩:ByteArray),.string (⟨#[]⟩:ByteArray)] 70 ?_;intro gb1002 hg w23 hbox hb;have BK1002:=am_ (hbox);have GW1002:=am_ (gs_ hg:w.heap.size<=gb1002);replace HB:=am_ (below_step bl_ hb);have GE1002:=GW1002;clear hb hbox hg;have hz24:=bk2_ BK1002));(repeat (go_quiet (first|(go_at_call 22;(with_reducible refine (impl_isName.calls k1 ((rd_T70 l0 x10_1).f0) false _ A6.out).mono ?_);rintro e w' ⟨rfl,⟨nd,rfl⟩⟩;(try exact dd_)));try go_wp2));go_ret;exact ⟨rf_,bg_⟩
    ·rw [if_neg c3] at H;have c3b0:=decide_eq_false c3;clear c3;obtain rfl:=si_ H;go_wp2;go_ret;exact ⟨rf_,bl_⟩
def impl_quote.l0:Nat->ByteArray->List Int->Int->Int->Option (ByteArray)
 | 0,_,_,_,_=>none
 | k+1,x0,x3,x7,x8=>if x8<x7 then (if 0<=x8 then (if x8<(x0.size:Int) then (if (bt x0 x8)=34 then (if x3.length<140737488355328 then ((some (x3++[92]:List Int)).bind fun y1004=>(if y1004.length<140737488355328 then (impl_quote.l0 k x0 (y1004++[bt x0 x8]) x7 (wrap64 (x8+1))) else (none))) else (none)) else (if (bt x0 x8)=92 then (if x3.length<140737488355328 then ((some (x3++[92]:List Int)).bind fun y1010=>(if y1010.length<140737488355328 then (impl_quote.l0 k x0 (y1010++[bt x0 x8]) x7 (wrap64 (x8+1))) else (none))) else (none)) else (if x3.length<140737488355328 then (impl_quote.l0 k x0 (x3++[bt x0 x8]) x7 (wrap64 (x8+1))) else (none)))) else (none)) else (none)) else (if x3.length<140737488355328 then (some (strOfNums (x3++[34]))) else (none))
def impl_quote.f (k:Nat)(a0:ByteArray):Option (ByteArray):=impl_quote.l0 k a0 (([34]:List Int)) (a0.size:Int) 0
theorem impl_quote.mono_l:∀ k,(∀ y0 y1 y2 y3,LeO (impl_quote.l0 k y0 y1 y2 y3) (impl_quote.l0 (k+1) y0 y1 y2 y3))
 | 0=>fun _ _ _ _ r h=>by simp [impl_quote.l0] at h
 | k+1=>by
  have ih0:=impl_quote.mono_l k
  ·intro y0 y1 y2 y3
   unfold impl_quote.l0
   repeat' with_reducible first|apply ih0|apply LeO.refl|apply LeO.none|apply LeO.ite|refine LeO.bind ?_ (fun _ => ?_)
theorem impl_quote.mono:∀ a0 k,LeO (impl_quote.f k a0) (impl_quote.f (k+1) a0):=by
 intro a0 k
 have ih0:=impl_quote.mono_l k
 unfold impl_quote.f
 repeat' with_reducible first|apply ih0|apply LeO.refl|apply LeO.none|apply LeO.ite|refine LeO.bind ?_ (fun _ => ?_)
theorem impl_quote.calls (k:Nat)(a0:ByteArray)(r:ByteArray)(w:World)(h:impl_quote.f k a0=some r) :
  Calls Tryz.prog 44 #[.string a0] w fun e w'=>e = .returned (.string r)/\Below w.heap.size w w':=by
 have HB:=am_ (Below.refl w.heap.size w);have H:=h;clear h;unfold impl_quote.f at H;obtain ⟨y1001,hy1001⟩:∃ y_:List Int,y_=(([34]:List Int)):=⟨_,rfl⟩;replace H:(impl_quote.l0 k a0 y1001 (a0.size:Int) 0)=some r:=by first|(rw [hy1001];with_reducible exact H)|(have H2_:=(Option.bind_some _ _).symm.trans H;rw [hy1001];with_reducible exact H2_)|(have H2_:=(Option.bind_some _ _).symm.trans H;with_reducible exact H2_)|with_reducible exact H|(rw [hy1001];exact H)|exact H
 have Ny1001:=am_ hy1001;clear hy1001;have H':=am_ H;clear H;go_enter Tryz.func44,Tryz.ntmps44;go_wp2_with (first|((with_reducible refine gate_dst (N:=5) rfl ?_);refine Kd.R_lit (Kd.int .u8) _ 5 ?hg (N:=5) ?hd (xs:=([34]:List Int)) (inner:=[.int .u8 34]) (ok:=fun _=>True) (okp:=fun _=>True) ?hr ?hp (fun _ hk=>hk) trivial (Below.refl _ _) (Nat.le_refl _) (by simp) ?_;(case hd=>rfl);(case hg=>rfl);(case hr=>first|(go_simp;done)|(go_simp;rfl));(case hp=>exact (Reps.one (show Kd.M (Kd.int .u8) _ _ _ 34 [.int .u8 34] from rfl) (Reps.none _ _)));intro v1002 w2 ho3 hb hg_ hnew_;clear hg_ hnew_;(first|rw [← Ny1001.out] at ho3|(simp only [Int.reduceToNat] at ho3;rw [← Ny1001.out] at ho3));have HO1003:=am_ (Kd.R_lower ho3 (below_size bl_));replace HB:=am_ (below_step bl_ hb);clear hb ho3))
 go_loopg [3,8] k (fun kq v3 v8 w'=>∃ (x3_1:List Int) (x8_1:Int),v8 = .int .i64 x8_1/\Aside0 (impl_quote.l0 kq a0 x3_1 (a0.size:Int) x8_1=some r)/\Aside0 (kq<=k)/\Aside0 (Kd.R (Kd.int .u8) 5 w' w.heap.size (fun _=>True) v3 x3_1)/\Aside0 (Below w.heap.size w w'))
 case atStart=>exact ⟨(y1001),(0),rs_,H',⟨Nat.le_refl _⟩,⟨ro_ HO1003⟩,⟨bl_⟩⟩
 case round =>
  clear H';obtain ⟨x3_1,x8_1,rfl,HA,HK1,HO_3,HB⟩:=hrel
  cases gk with
  | zero=>exact absurd HA.out (by simp [impl_quote.l0])
  | succ k1 =>
   have H:=HA.out;clear HA;simp only [impl_quote.l0] at H
   by_cases c4:x8_1<(a0.size:Int)
   ·rw [if_pos c4] at H;have c4b0:=decide_eq_true c4;clear c4;replace H:=is_ H;obtain ⟨c5,H⟩:=H;have c5b0:=decide_eq_true c5;clear c5;replace H:=is_ H;obtain ⟨c6,H⟩:=H;have c6b0:=decide_eq_true c6;clear c6
    by_cases c8:(bt a0 x8_1)=34
    ·rw [if_pos c8] at H;have c8b0:=eb_ c8;have c8b1:=en_ c8;clear c8;replace H:=is_ H;obtain ⟨c9,H⟩:=H;have LMc9:=am_ c9;clear c9;obtain ⟨y1004,hy1004⟩:∃ y_:List Int,y_=(x3_1++[92]):=⟨_,rfl⟩;replace H:(if y1004.length<140737488355328 then (impl_quote.l0 k1 a0 (y1004++[bt a0 x8_1]) (a0.size:Int) (wrap64 (x8_1+1))) else (none))=some r:=by first|(rw [hy1004];with_reducible exact H)|(have H2_:=(Option.bind_some _ _).symm.trans H;rw [hy1004];with_reducible exact H2_)|(have H2_:=(Option.bind_some _ _).symm.trans H;with_reducible exact H2_)|with_reducible exact H|(rw [hy1004];exact H)|exact H
     have Ny1004:=am_ hy1004;clear hy1004;replace H:=is_ H;obtain ⟨c11,H⟩:=H;have LMc11:=am_ c11;clear c11;obtain ⟨y1007,hy1007⟩:∃ y_:List Int,y_=(y1004++[bt a0 x8_1]):=⟨_,rfl⟩;replace H:(impl_quote.l0 k1 a0 y1007 (a0.size:Int) (wrap64 (x8_1+1)))=some r:=by first|(rw [hy1007];with_reducible exact H)|(have H2_:=(Option.bind_some _ _).symm.trans H;rw [hy1007];with_reducible exact H2_)|(have H2_:=(Option.bind_some _ _).symm.trans H;with_reducible exact H2_)|with_reducible exact H|(rw [hy1007];exact H)|exact H
     have Ny1007:=am_ hy1007;clear hy1007;have H':=am_ H;clear H;have p7:0<=(x8_1:Int):=od_;have q7:x8_1<(a0.size:Int):=od_;have hx7:=bt_at a0 x8_1;replace p7:=eq_true p7;replace q7:=eq_true q7;go_wp2_with (first|((with_reducible refine gate_builtin (b:=.append) (xs:=#[.tmp 21,.tmp 22]) rfl ?_);at_builtin;refine Kd.R_append (Kd.int .u8) (w0:=w) w.heap.size rfl (.tmp 21) (.tmp 22) 89 5 (.int .u8 0) 1 rfl Tryz.underlying89 info5 rfl (by decide) (by omega) u3 x3_1 92 [.int .u8 92] (fun _=>True) (fun _=>False) rfl rfl ?aP (fun _ hk=>hk.elim) ?aF ?aO ?aB ?aS ?aL ?_;(case aP=>exact rfl);(case aB=>exact bl_);(case aF=>exact (fun _ _=>trivial));(case aO=>exact (ro_ HO_3));(case aS=>exact (below_size bl_));(case aL=>have:=LMc9.out;omega);intro v1005 w12 ho hb hg hat;rw [← Ny1004.out] at ho;have n0_:=am_ (hb);have n1_:=am_ (ho);clear HB;clear HO_3;have HB:=n0_;have HO1006:=n1_;clear n0_ n1_;clear ho hb hg hat;have p10:0<=(x8_1:Int):=od_;have q10:x8_1<(a0.size:Int):=od_;have hx10:=bt_at a0 x8_1;replace p10:=eq_true p10;replace q10:=eq_true q10)|((with_reducible refine gate_builtin (b:=.append) (xs:=#[.tmp 24,.tmp 28]) rfl ?_);at_builtin;refine Kd.R_append (Kd.int .u8) (w0:=w) w.heap.size rfl (.tmp 24) (.tmp 28) 89 5 (.int .u8 0) 1 rfl Tryz.underlying89 info5 rfl (by decide) (by omega) v1005 y1004 (bt a0 x8_1) [.int .u8 (bt a0 x8_1)] (fun _=>True) (fun _=>False) rfl rfl ?aP (fun _ hk=>hk.elim) ?aF ?aO ?aB ?aS ?aL ?_;(case aP=>exact rfl);(case aB=>exact bl_);(case aF=>exact (fun _ _=>trivial));(case aO=>exact (ro_ HO1006));(case aS=>exact (below_size bl_));(case aL=>have:=LMc11.out;omega);intro v1008 w13 ho hb hg hat;rw [← Ny1007.out] at ho;have n0_:=am_ (hb);have n1_:=am_ (ho);clear HB;clear HO1006;have HB:=n0_;have HO1009:=n1_;clear n0_ n1_;clear ho hb hg hat));go_roundg k1
     case measure=>have:=HK1.out;omega
     case rel=>exact ⟨(y1007),(wrap64 (x8_1+1)),rs_,H',⟨by have:=HK1.out;omega⟩,⟨ro_ HO1009⟩,⟨bl_⟩⟩
    ·rw [if_neg c8] at H;have c8b0:=nb_ c8;have c8b1:=nn_ c8
     by_cases c15:(bt a0 x8_1)=92
     ·rw [if_pos c15] at H;have c15b0:=eb_ c15;have c15b1:=en_ c15;clear c15;replace H:=is_ H;obtain ⟨c16,H⟩:=H;have LMc16:=am_ c16;clear c16;obtain ⟨y1010,hy1010⟩:∃ y_:List Int,y_=(x3_1++[92]):=⟨_,rfl⟩;replace H:(if y1010.length<140737488355328 then (impl_quote.l0 k1 a0 (y1010++[bt a0 x8_1]) (a0.size:Int) (wrap64 (x8_1+1))) else (none))=some r:=by first|(rw [hy1010];with_reducible exact H)|(have H2_:=(Option.bind_some _ _).symm.trans H;rw [hy1010];with_reducible exact H2_)|(have H2_:=(Option.bind_some _ _).symm.trans H;with_reducible exact H2_)|with_reducible exact H|(rw [hy1010];exact H)|exact H
      have Ny1010:=am_ hy1010;clear hy1010;replace H:=is_ H;obtain ⟨c18,H⟩:=H;have LMc18:=am_ c18;clear c18;obtain ⟨y1013,hy1013⟩:∃ y_:List Int,y_=(y1010++[bt a0 x8_1]):=⟨_,rfl⟩;replace H:(impl_quote.l0 k1 a0 y1013 (a0.size:Int) (wrap64 (x8_1+1)))=some r:=by first|(rw [hy1013];with_reducible exact H)|(have H2_:=(Option.bind_some _ _).symm.trans H;rw [hy1013];with_reducible exact H2_)|(have H2_:=(Option.bind_some _ _).symm.trans H;with_reducible exact H2_)|with_reducible exact H|(rw [hy1013];exact H)|exact H
      have Ny1013:=am_ hy1013;clear hy1013;have H':=am_ H;clear H;have p7:0<=(x8_1:Int):=od_;have q7:x8_1<(a0.size:Int):=od_;have hx7:=bt_at a0 x8_1;replace p7:=eq_true p7;replace q7:=eq_true q7;have p14:0<=(x8_1:Int):=od_;have q14:x8_1<(a0.size:Int):=od_;have hx14:=bt_at a0 x8_1;replace p14:=eq_true p14;replace q14:=eq_true q14;go_wp2_with (first|((with_reducible refine gate_builtin (b:=.append) (xs:=#[.tmp 21,.tmp 22]) rfl ?_);at_builtin;refine Kd.R_append (Kd.int .u8) (w0:=w) w.heap.size rfl (.tmp 21) (.tmp 22) 89 5 (.int .u8 0) 1 rfl Tryz.underlying89 info5 rfl (by decide) (by omega) u3 x3_1 92 [.int .u8 92] (fun _=>True) (fun _=>False) rfl rfl ?aP (fun _ hk=>hk.elim) ?aF ?aO ?aB ?aS ?aL ?_;(case aP=>exact rfl);(case aB=>exact bl_);(case aF=>exact (fun _ _=>trivial));(case aO=>exact (ro_ HO_3));(case aS=>exact (below_size bl_));(case aL=>have:=LMc16.out;omega);intro v1011 w19 ho hb hg hat;rw [← Ny1010.out] at ho;have n0_:=am_ (hb);have n1_:=am_ (ho);clear HB;clear HO_3;have HB:=n0_;have HO1012:=n1_;clear n0_ n1_;clear ho hb hg hat;have p17:0<=(x8_1:Int):=od_;have q17:x8_1<(a0.size:Int):=od_;have hx17:=bt_at a0 x8_1;replace p17:=eq_true p17;replace q17:=eq_true q17)|((with_reducible refine gate_builtin (b:=.append) (xs:=#[.tmp 24,.tmp 28]) rfl ?_);at_builtin;refine Kd.R_append (Kd.int .u8) (w0:=w) w.heap.size rfl (.tmp 24) (.tmp 28) 89 5 (.int .u8 0) 1 rfl Tryz.underlying89 info5 rfl (by decide) (by omega) v1011 y1010 (bt a0 x8_1) [.int .u8 (bt a0 x8_1)] (fun _=>True) (fun _=>False) rfl rfl ?aP (fun _ hk=>hk.elim) ?aF ?aO ?aB ?aS ?aL ?_;(case aP=>exact rfl);(case aB=>exact bl_);(case aF=>exact (fun _ _=>trivial));(case aO=>exact (ro_ HO1012));(case aS=>exact (below_size bl_));(case aL=>have:=LMc18.out;omega);intro v1014 w20 ho hb hg hat;rw [← Ny1013.out] at ho;have n0_:=am_ (hb);have n1_:=am_ (ho);clear HB;clear HO1012;have HB:=n0_;have HO1015:=n1_;clear n0_ n1_;clear ho hb hg hat));go_roundg k1
      case measure=>have:=HK1.out;omega
      case rel=>exact ⟨(y1013),(wrap64 (x8_1+1)),rs_,H',⟨by have:=HK1.out;omega⟩,⟨ro_ HO1015⟩,⟨bl_⟩⟩
     ·rw [if_neg c15] at H;have c15b0:=nb_ c15;have c15b1:=nn_ c15;replace H:=is_ H;obtain ⟨c22,H⟩:=H;have LMc22:=am_ c22;clear c22;obtain ⟨y1016,hy1016⟩:∃ y_:List Int,y_=(x3_1++[bt a0 x8_1]):=⟨_,rfl⟩;replace H:(impl_quote.l0 k1 a0 y1016 (a0.size:Int) (wrap64 (x8_1+1)))=some r:=by first|(rw [hy1016];with_reducible exact H)|(have H2_:=(Option.bind_some _ _).symm.trans H;rw [hy1016];with_reducible exact H2_)|(have H2_:=(Option.bind_some _ _).symm.trans H;with_reducible exact H2_)|with_reducible exact H|(rw [hy1016];exact H)|exact H
      have Ny1016:=am_ hy1016;clear hy1016;have H':=am_ H;clear H;have p7:0<=(x8_1:Int):=od_;have q7:x8_1<(a0.size:Int):=od_;have hx7:=bt_at a0 x8_1;replace p7:=eq_true p7;replace q7:=eq_true q7;have p14:0<=(x8_1:Int):=od_;have q14:x8_1<(a0.size:Int):=od_;have hx14:=bt_at a0 x8_1;replace p14:=eq_true p14;replace q14:=eq_true q14;have p21:0<=(x8_1:Int):=od_;have q21:x8_1<(a0.size:Int):=od_;have hx21:=bt_at a0 x8_1;replace p21:=eq_true p21;replace q21:=eq_true q21;go_wp2_with (first|((with_reducible refine gate_builtin (b:=.append) (xs:=#[.tmp 24,.tmp 28]) rfl ?_);at_builtin;refine Kd.R_append (Kd.int .u8) (w0:=w) w.heap.size rfl (.tmp 24) (.tmp 28) 89 5 (.int .u8 0) 1 rfl Tryz.underlying89 info5 rfl (by decide) (by omega) u3 x3_1 (bt a0 x8_1) [.int .u8 (bt a0 x8_1)] (fun _=>True) (fun _=>False) rfl rfl ?aP (fun _ hk=>hk.elim) ?aF ?aO ?aB ?aS ?aL ?_;(case aP=>exact rfl);(case aB=>exact bl_);(case aF=>exact (fun _ _=>trivial));(case aO=>exact (ro_ HO_3));(case aS=>exact (below_size bl_));(case aL=>have:=LMc22.out;omega);intro v1017 w23 ho hb hg hat;rw [← Ny1016.out] at ho;have n0_:=am_ (hb);have n1_:=am_ (ho);clear HB;clear HO_3;have HB:=n0_;have HO1018:=n1_;clear n0_ n1_;clear ho hb hg hat));go_roundg k1
      case measure=>have:=HK1.out;omega
      case rel=>exact ⟨(y1016),(wrap64 (x8_1+1)),rs_,H',⟨by have:=HK1.out;omega⟩,⟨ro_ HO1018⟩,⟨bl_⟩⟩
   ·rw [if_neg c4] at H;have c4b0:=decide_eq_false c4;clear c4;replace H:=is_ H;obtain ⟨c24,H⟩:=H;have LMc24:=am_ c24;clear c24;obtain ⟨y1019,hy1019⟩:∃ y_:List Int,y_=(x3_1++[34]):=⟨_,rfl⟩;replace H:(some (strOfNums y1019))=some r:=by first|(rw [hy1019];with_reducible exact H)|(have H2_:=(Option.bind_some _ _).symm.trans H;rw [hy1019];with_reducible exact H2_)|(have H2_:=(Option.bind_some _ _).symm.trans H;with_reducible exact H2_)|with_reducible exact H|(rw [hy1019];exact H)|exact H
    have Ny1019:=am_ hy1019;clear hy1019;obtain rfl:=si_ H;go_wp2_with (first|((with_reducible refine gate_builtin (b:=.append) (xs:=#[.tmp 31,.tmp 32]) rfl ?_);at_builtin;refine Kd.R_append (Kd.int .u8) (w0:=w) w.heap.size rfl (.tmp 31) (.tmp 32) 89 5 (.int .u8 0) 1 rfl Tryz.underlying89 info5 rfl (by decide) (by omega) u3 x3_1 34 [.int .u8 34] (fun _=>True) (fun _=>False) rfl rfl ?aP (fun _ hk=>hk.elim) ?aF ?aO ?aB ?aS ?aL ?_;(case aP=>exact rfl);(case aB=>exact bl_);(case aF=>exact (fun _ _=>trivial));(case aO=>exact (ro_ HO_3));(case aS=>exact (below_size bl_));(case aL=>have:=LMc24.out;omega);intro v1020 w25 ho hb hg hat;rw [← Ny1019.out] at ho;have n0_:=am_ (hb);have n1_:=am_ (ho);clear HB;clear HO_3;have HB:=n0_;have HO1021:=n1_;clear n0_ n1_;clear ho hb hg hat;have hcv26:=own_string (P:=Tryz.prog) Tryz.underlying89 Tryz.underlying5 Tryz.underlying9 (Kd.own_of_R HO1021.out)));go_ret;exact ⟨rf_,bl_⟩
def strings_Join.f (l0:List (ByteArray))(a1:ByteArray):Option (ByteArray):=if l0.length<=140737488355328/\(Lib.join (l0.map (·.data.toList)) a1.data.toList).length<=140737488355328 then some ⟨(Lib.join (l0.map (·.data.toList)) a1.data.toList).toArray⟩ else none
theorem strings_Join.calls (A0:Option Addr)(c0:Nat)(l0:List (ByteArray))(a1:ByteArray)(r:ByteArray)(w:World)(hr0:Kd.C (Kd.string) w A0 l0.length l0)(hc0:l0.length<=c0)(h:strings_Join.f l0 a1=some r) :
  Calls Tryz.prog 45 #[.slice A0 l0.length c0,.string a1] w fun e w'=>e = .returned (.string r)/\Below w.heap.size w w':=by
 unfold strings_Join.f at h
 split at h
 ·rename_i hl
  obtain rfl:=Option.some.inj h
  rcases Nat.eq_zero_or_pos l0.length with h0|h0
  ·obtain rfl:=List.eq_nil_of_length_eq_zero h0
   exact (Tryz.strings_Join_none A0 c0 a1 w).mono (fun e w' hp=>⟨hp.1,by rw [hp.2];exact Below.refl _ _⟩)
  ·obtain ⟨⟨b,o,s⟩,rfl,h1⟩:=Kd.at_string hr0 0 (by omega) (by omega)
   have hs:s=none:=by
    have h2:w.cell? ⟨b,o,s⟩=some (.string (rdOf ByteArray.empty l0 0)):=h1
    unfold World.cell? at h2
    split at h2
    ·split at h2
     ·cases h2
     ·rename_i h3;simpa using h3
    ·cases h2
   subst hs
   have hcell:∀ (j:Nat) x,l0[j]? = some x->w.cell? ⟨b,o+j,none⟩=some (.string x):=by
    intro j x hx
    obtain ⟨hj,hx⟩:=List.getElem?_eq_some_iff.1 hx
    obtain ⟨ad',e',h4⟩:=Kd.at_string hr0 (j:Int) (by omega) (by omega)
    cases e'
    rw [show rdOf ByteArray.empty l0 (j:Int)=x from by unfold rdOf;simp [hj,hx],Int.toNat_natCast] at h4
    rw [← h4]
    unfold Addr.add
    by_cases hj0:j=0
    ·subst hj0;rfl
    ·rw [if_neg hj0]
   exact (Tryz.strings_Join b o c0 l0 a1 w hcell (World.block_lt_of_cell? w ⟨b,o+0,none⟩ (hcell 0 _ (List.getElem?_eq_getElem h0))) hl.1 hc0 hl.2).mono (fun e w' hp=>hp)
 ·cases h
def impl_LabelsText.l0:Nat->List ByteArray->List (S70)->Int->Int->Option (ByteArray)
 | 0,_,_,_,_=>none
 | k+1,x3,x9,x10,x11=>if x11<x10 then (if 0<=x11 then (if x11<(x9.length:Int) then (if ((rd_T70 x9 x11).f0).size+1<=9223372036854775807 then ((impl_quote.f k ((rd_T70 x9 x11).f1)).bind fun t1004=>(if (((rd_T70 x9 x11).f0)++(⟨#[61]⟩:ByteArray)).size+t1004.size<=9223372036854775807 then (if x3.length<8796093022208 then (impl_LabelsText.l0 k (x3++[(((rd_T70 x9 x11).f0)++(⟨#[61]⟩:ByteArray))++t1004]) x9 x10 (wrap64 (x11+1))) else (none)) else (none))) else (none)) else (none)) else (none)) else ((strings_Join.f x3 (⟨#[44]⟩:ByteArray)).bind fun t1008=>(if 1+t1008.size<=9223372036854775807 then (if ((⟨#[123]⟩:ByteArray)++t1008).size+1<=9223372036854775807 then (some (((⟨#[123]⟩:ByteArray)++t1008)++(⟨#[125]⟩:ByteArray))) else (none)) else (none)))
def impl_LabelsText.f (k:Nat)(l0:List (S70)):Option (ByteArray):=(impl_GoodLabels.f k l0).bind fun t1001=>(if t1001=true then (impl_LabelsText.l0 k ([]:List ByteArray) l0 (l0.length:Int) 0) else (some (⟨#[]⟩:ByteArray)))
theorem impl_LabelsText.mono_l:∀ k,(∀ y0 y1 y2 y3,LeO (impl_LabelsText.l0 k y0 y1 y2 y3) (impl_LabelsText.l0 (k+1) y0 y1 y2 y3))
 | 0=>fun _ _ _ _ r h=>by simp [impl_LabelsText.l0] at h
 | k+1=>by
  have ih0:=impl_LabelsText.mono_l k
  ·intro y0 y1 y2 y3
   unfold impl_LabelsText.l0
   repeat' with_reducible first|apply ih0|apply impl_GoodLabels.mono|apply impl_quote.mono|apply LeO.refl|apply LeO.none|apply LeO.ite|refine LeO.bind ?_ (fun _ => ?_)
theorem impl_LabelsText.mono:∀ a0 k,LeO (impl_LabelsText.f k a0) (impl_LabelsText.f (k+1) a0):=by
 intro a0 k
 have ih0:=impl_LabelsText.mono_l k
 unfold impl_LabelsText.f
 repeat' with_reducible first|apply ih0|apply impl_GoodLabels.mono|apply impl_quote.mono|apply LeO.refl|apply LeO.none|apply LeO.ite|refine LeO.bind ?_ (fun _ => ?_)
def impl_LabelsText.T7:Bool × List (List Nat × List Nat):=(true,[([],[]),([],[]),([1],[1]),([2],[2]),([],[]),([4],[4]),([5],[5]),([3,6],[3,6]),([7],[7]),([0,8,6],[0,8]),([9,9,0,1,2,3,4,5,6,7,8,9],[0,9])])
def impl_LabelsText.B7:List Nat:=[0,0,2,6,0,16,48,126,254,511,1023]
theorem impl_LabelsText.tab7:rtab .any (opsOf Tryz.f24 7)=impl_LabelsText.T7:=by kernel_rfl
theorem impl_LabelsText.bits7:waitsOk impl_LabelsText.T7.2 impl_LabelsText.B7=true:=by kernel_rfl
theorem impl_LabelsText.calls (k:Nat)(A0:Option Addr)(c0:Nat)(l0:List (S70))(r:ByteArray)(w:World)(hr0:Kd.C k70 w A0 l0.length l0)(hc0:l0.length<=c0)(h:impl_LabelsText.f k l0=some r) :
  Calls Tryz.prog 24 #[.slice A0 l0.length c0] w fun e w'=>e = .returned (.string r)/\Below w.heap.size w w':=by
 have hu70:=Tryz.underlying70;have HR0:=am_ hr0;have HC0:=am_ hc0;clear hr0 hc0;have HB:=am_ (Below.refl w.heap.size w);have H:=h;clear h;unfold impl_LabelsText.f at H;replace H:=bs_ H;obtain ⟨t1001,A2,H⟩:=H
 by_cases c3:t1001=true
 ·subst c3;replace H:=it_ H;have H':=am_ H;clear H;go_enter Tryz.func24,Tryz.ntmps24;go_wp2_with (first|((with_reducible refine gate_callee (f:=43) rfl ?_);refine gl_ 7 Tryz.func43 #[.slice A0 l0.length c0] ?_;(with_reducible refine (impl_GoodLabels.calls k _ _ l0 true _ ?side1 ?side2 A2.out).mono ?_);(case side1=>repeat (first|exact HR0.out|(with_reducible refine Kd.C_alloc ?_ _)|(with_reducible refine Kd.C_drewN ?_ _)|(with_reducible refine Kd.C_drew ?_)));(case side2=>exact HC0.out);rintro e w4 ⟨rfl,hb⟩;refine ⟨_,rfl,?_⟩;replace HB:=am_ (below_step bl_ hb);(try clear hb)))
  go_loopg [3,11] k (fun kq v3 v11 w'=>∃ (x3_1:List ByteArray) (x11_1:Int),v11 = .int .i64 x11_1/\Aside0 (impl_LabelsText.l0 kq x3_1 l0 (l0.length:Int) x11_1=some r)/\Aside0 (kq<=k)/\Aside0 (Kd.R Kd.string 9 w' w.heap.size (fun _=>True) v3 x3_1)/\Aside0 (Below w.heap.size w w'))
  case atStart=>exact ⟨(([]:List ByteArray)),(0),rs_,H',⟨Nat.le_refl _⟩,⟨ni_⟩,⟨bl_⟩⟩
  case round =>
   clear H';(try clear c3);obtain ⟨x3_1,x11_1,rfl,HA,HK1,HO_3,HB⟩:=hrel
   cases gk with
   | zero=>exact absurd HA.out (by simp [impl_LabelsText.l0])
   | succ k1 =>
    have H:=HA.out;clear HA;simp only [impl_LabelsText.l0] at H
    by_cases c5:x11_1<(l0.length:Int)
    ·rw [if_pos c5] at H;have c5b0:=decide_eq_true c5;clear c5;replace H:=is_ H;obtain ⟨c6,H⟩:=H;have c6b0:=decide_eq_true c6;clear c6;replace H:=is_ H;obtain ⟨c7,H⟩:=H;have c7b0:=decide_eq_true c7;clear c7;replace H:=is_ H;obtain ⟨c8,H⟩:=H;have c8b0:=eq_true c8;have c8b1:=decide_eq_true c8;(try have c8b2:=eq_false (Nat.not_lt.2 c8));replace H:=bs_ H;obtain ⟨t1004,A9,H⟩:=H;replace H:=is_ H;obtain ⟨c10,H⟩:=H;have c10b0:=eq_true c10;have c10b1:=decide_eq_true c10;(try have c10b2:=eq_false (Nat.not_lt.2 c10));(try (have c10b3:=c10b2;simp only [ByteArray.size_append,sz_mk_,List.size_toArray,List.length_cons,List.length_nil,Nat.reduceAdd] at c10b3));replace H:=is_ H;obtain ⟨c11,H⟩:=H;have LMc11:=am_ c11;clear c11;obtain ⟨y1005,hy1005⟩:∃ y_:List ByteArray,y_=(x3_1++[(((rd_T70 l0 x11_1).f0)++(⟨#[61]⟩:ByteArray))++t1004]):=⟨_,rfl⟩;replace H:(impl_LabelsText.l0 k1 y1005 l0 (l0.length:Int) (wrap64 (x11_1+1)))=some r:=by first|(rw [hy1005];with_reducible exact H)|(have H2_:=(Option.bind_some _ _).symm.trans H;rw [hy1005];with_reducible exact H2_)|(have H2_:=(Option.bind_some _ _).symm.trans H;with_reducible exact H2_)|with_reducible exact H|(rw [hy1005];exact H)|exact H
     have Ny1005:=am_ hy1005;clear hy1005;have H':=am_ H;clear H;have p1002:0<=(x11_1:Int):=od_;have q1002:x11_1<(l0.length:Int):=od_;obtain ⟨ad1002,e1002,hx1002_0,hx1002_1⟩:=at_T70 HR0.out x11_1 p1002 q1002
     cases e1002
     replace hx1002_0:=kp_ HB hx1002_0;replace hx1002_1:=kp_ HB hx1002_1;replace p1002:=eq_true p1002;replace q1002:=eq_true q1002;(try go_wp2_with (first|((with_reducible refine gate_dst (N:=5) rfl ?_);refine bx_ 5 #[.string (⟨#[]⟩:ByteArray),.string (⟨#[]⟩:ByteArray)] 70 ?_;intro gb1003 hg w12 hbox hb;have BK1003:=am_ (hbox);have GW1003:=am_ (gs_ hg:w.heap.size<=gb1003);replace HO_3:=am_ (Kd.R_below (ro_ HO_3) hb);replace HB:=am_ (below_step bl_ hb);have GE1003:=GW1003;clear hb hbox hg;have hz13:=bk2_ BK1003)));have n0_:Aside0 (Kd.R Kd.string 9 ((w12.setCell ⟨gb1003,0,none⟩ (.string ((rd_T70 l0 x11_1).f0))).setCell ⟨gb1003,1,none⟩ (.string ((rd_T70 l0 x11_1).f1))) w.heap.size (fun _=>True) u3 x3_1):=⟨by (with_reducible repeat (first|apply Kd.R_alloc|apply Kd.R_drewN|apply Kd.R_drew));exact Kd.R_mono (Kd.R_far (p:=⟨gb1003,1,none⟩) (Kd.R_far (p:=⟨gb1003,0,none⟩) (Kd.R_types HO_3.out BK1003.out (by decide)) (fun _ hk=>hk.2) (.string ((rd_T70 l0 x11_1).f0))) (fun _ hk=>hk.2) (.string ((rd_T70 l0 x11_1).f1))) (fun _ hk=>trivial)⟩;have n1_:Aside0 (((w12.setCell ⟨gb1003,0,none⟩ (.string ((rd_T70 l0 x11_1).f0))).setCell ⟨gb1003,1,none⟩ (.string ((rd_T70 l0 x11_1).f1))).heap[gb1003]? = some (.cells #[.string ((rd_T70 l0 x11_1).f0),.string ((rd_T70 l0 x11_1).f1)] 70 (0,0))):=⟨by (with_reducible repeat (first|refine blk_drewN ?_ _|refine blk_drew ?_|refine blk_alloc ?_ _));refine blk_put (cs:=#[.string ((rd_T70 l0 x11_1).f0),.string (⟨#[]⟩:ByteArray)]) ?_ 1 _ rfl;(with_reducible repeat (first|refine blk_drewN ?_ _|refine blk_drew ?_|refine blk_alloc ?_ _));refine blk_put (cs:=#[.string (⟨#[]⟩:ByteArray),.string (⟨#[]⟩:ByteArray)]) ?_ 0 _ rfl;(with_reducible repeat (first|refine blk_drewN ?_ _|refine blk_drew ?_|refine blk_alloc ?_ _));exact BK1003.out⟩;have n2_:Aside0 (Below w.heap.size w ((w12.setCell ⟨gb1003,0,none⟩ (.string ((rd_T70 l0 x11_1).f0))).setCell ⟨gb1003,1,none⟩ (.string ((rd_T70 l0 x11_1).f1)))):=⟨bg_⟩;(try clear HO_3);(try clear BK1003);(try clear HB);generalize ((w12.setCell ⟨gb1003,0,none⟩ (.string ((rd_T70 l0 x11_1).f0))).setCell ⟨gb1003,1,none⟩ (.string ((rd_T70 l0 x11_1).f1)))=w14 at n0_ n1_ n2_ ⊢;have HO_3:=n0_;have BK1003:=n1_;have HB:=n2_;clear n0_ n1_ n2_;have n0_:=am_ (Kd.R_drew HO_3.out);have n1_:=am_ (blk_drew BK1003.out);have n2_:=am_ (below_drew1 HB.out);clear HO_3;clear BK1003;clear HB;have HO_3:=n0_;have BK1003:=n1_;have HB:=n2_;clear n0_ n1_ n2_;refine start_ (n:=11) (S:=fun w'=>w'.cell? ⟨gb1003,0,none⟩=some (.string ((rd_T70 l0 x11_1).f0))/\w'.cell? ⟨gb1003,1,none⟩=some (.string ((rd_T70 l0 x11_1).f1))) (ds:=[]) (bz 11 0) (by kernel_rfl) rfl rfl ⟨(blk_cell BK1003.out 0).trans rfl,(blk_cell BK1003.out 1).trans rfl⟩ (fun hHeld => ?_);refine with_tabW impl_LabelsText.tab7 impl_LabelsText.bits7 (fun HT_ HW_ => ?_);generalize w14.drew=w15 at HO_3 BK1003 HB hHeld ⊢;refine pz_ 0 15 1 ?_;refine pz_ 1 16 3 ?_;refine pz_ 4 19 19 ?_;refine tz_ 2 17 23 ?_;refine pz_ 3 18 31 ?_;refine tz_ 5 20 63 ?_;refine one_ (i:=6) (N:=some 21) (bz 11 127) rfl rfl (one_of HT_.out (by kernel_rfl)) (by decide) (fun K hK => ?_);refine goes_ Tryz.func44 (by kernel_rfl) rfl #[.string ((rd_T70 l0 x11_1).f1)] (by rfl) rfl rfl ag_ ?_;(with_reducible refine (impl_quote.calls k1 ((rd_T70 l0 x11_1).f1) t1004 _ A9.out).mono ?_);rintro e w16 ⟨rfl,hb⟩;refine ⟨_,rfl,?_⟩;have n0_:=am_ (Kd.R_below (ro_ HO_3) hb);have n1_:=am_ (blk_below (g:=gb1003) (vk_ BK1003) hb);have n2_:=am_ (below_step bg_ hb);clear HO_3;clear BK1003;clear HB;have HO_3:=n0_;have BK1003:=n1_;have HB:=n2_;clear n0_ n1_ n2_;(try clear hb);(try clear hb2);(try clear hk);(try clear hi);refine hK.out _ _ ⟨(blk_cell BK1003.out 0).trans rfl,(blk_cell BK1003.out 1).trans rfl⟩ (fun hHeld => ?_);clear hK K;refine norm_ (a':=?_) ?_ ?_;rotate_left
     ·show Act.put _ (some 21) _=_;simp only [Act.put,List.setIfInBounds_toArray,List.set_cons_zero,List.set_cons_succ,i64_w,i32_w];rfl
     refine pz_ 7 22 255 ?_;refine one_ (i:=8) (N:=some 23) (bz 11 511) rfl rfl (one_of HT_.out (by kernel_rfl)) (by decide) (fun K hK => ?_);refine value_ (w1:=?_) (v:=?_) (by rfl) rfl ?_ ?_;rotate_left 2
     ·go_simp;constructor
      ·rfl
      ·rfl
     refine hK.out _ _ ⟨(blk_cell (blk_alloc BK1003.out _) 0).trans rfl,(blk_cell (blk_alloc BK1003.out _) 1).trans rfl⟩ (fun hHeld => ?_);clear hK K;refine norm_ (a':=?_) ?_ ?_;rotate_left
     ·show Act.put _ (some 23) _=_;simp only [Act.put,List.setIfInBounds_toArray,List.set_cons_zero,List.set_cons_succ,i64_w,i32_w];rfl
     refine one_ (i:=9) (N:=some 24) (bz 11 1023) rfl rfl (one_of HT_.out (by kernel_rfl)) (by decide) (fun K hK => ?_);refine Kd.R_append_step Kd.string (w0:=w) w.heap.size (by rfl) (.tmp 15) (.tmp 23) 76 9 (.string ⟨#[]⟩) 16 rfl Tryz.underlying76 info9 rfl (by decide) (by omega) u3 x3_1 ((((rd_T70 l0 x11_1).f0)++(⟨#[61]⟩:ByteArray))++t1004) [.string ((((rd_T70 l0 x11_1).f0)++(⟨#[61]⟩:ByteArray))++t1004)] (fun _=>True) (fun _=>False) rfl rfl ?aP (fun _ hk=>hk.elim) ?aF ?aO ?aB ?aS ?aL ?_;(case aP=>exact rfl);(case aB=>exact bg_);(case aF=>exact (fun _ _=>trivial));(case aO=>exact (ro_ HO_3));(case aS=>exact (below_size bg_));(case aL=>have:=LMc11.out;omega);intro v1006 w17 ho hb hg hat;rw [← Ny1005.out] at ho;have n0_:=am_ (blk_grown (g:=gb1003) (o:=.cells #[.string ((rd_T70 l0 x11_1).f0),.string ((rd_T70 l0 x11_1).f1)] 70 (0,0)) (vk_ BK1003) hg (Kd.R_ne HO_3.out BK1003.out (by decide)));have n1_:=am_ (hb);have n2_:=am_ (ho);clear BK1003;clear HB;clear HO_3;have BK1003:=n0_;have HB:=n1_;have HO1007:=n2_;clear n0_ n1_ n2_;clear ho hb hg hat;refine hK.out _ _ ⟨(blk_cell BK1003.out 0).trans rfl,(blk_cell BK1003.out 1).trans rfl⟩ (fun hHeld => ?_);clear hK K;refine norm_ (a':=?_) ?_ ?_;rotate_left
     ·show Act.put _ (some 24) _=_;simp only [Act.put,List.setIfInBounds_toArray,List.set_cons_zero,List.set_cons_succ,i64_w,i32_w];rfl
     refine pz_ 10 3 2047 ?_;refine done_ (done_of HT_.out (by kernel_rfl)) ?_;(try go_wp2);go_roundg k1
     case measure=>have:=HK1.out;omega
     case rel=>exact ⟨(y1005),(wrap64 (x11_1+1)),rs_,H',⟨by have:=HK1.out;omega⟩,⟨ro_ HO1007⟩,⟨bg_⟩⟩
    ·rw [if_neg c5] at H;have c5b0:=decide_eq_false c5;clear c5;replace H:=bs_ H;obtain ⟨t1008,A18,H⟩:=H;replace H:=is_ H;obtain ⟨c19,H⟩:=H;have c19b0:=eq_true c19;have c19b1:=decide_eq_true c19;(try have c19b2:=eq_false (Nat.not_lt.2 c19));replace H:=is_ H;obtain ⟨c20,H⟩:=H;have c20b0:=eq_true c20;have c20b1:=decide_eq_true c20;(try have c20b2:=eq_false (Nat.not_lt.2 c20));(try (have c20b3:=c20b2;simp only [ByteArray.size_append,sz_mk_,List.size_toArray,List.length_cons,List.length_nil,Nat.reduceAdd] at c20b3));obtain rfl:=si_ H;obtain ⟨Ao21,co21,eo21⟩:=Kd.R_slice HO_3.out;subst eo21;go_wp2_with (first|((with_reducible refine gate_callee (f:=45) rfl ?_);refine gl_ 27 Tryz.func45 #[.slice Ao21 x3_1.length co21,.string (⟨#[44]⟩:ByteArray)] ?_;(with_reducible refine (strings_Join.calls _ _ x3_1 (⟨#[44]⟩:ByteArray) t1008 _ ?side1 ?side2 A18.out).mono ?_);(case side1=>exact cc_ (Kd.R_reads' HO_3.out).2.2);(case side2=>exact (Kd.R_reads' HO_3.out).2.1);rintro e w22 ⟨rfl,hb⟩;refine ⟨_,rfl,?_⟩;replace HO_3:=am_ (Kd.R_below (ro_ HO_3) hb);replace HB:=am_ (below_step bl_ hb);(try clear hb)));go_ret;exact ⟨rf_,bl_⟩
 ·replace c3:=Bool.eq_false_iff.mpr c3;subst c3;replace H:=if_ H;obtain rfl:=si_ H;go_enter Tryz.func24,Tryz.ntmps24;go_wp2_with (first|((with_reducible refine gate_callee (f:=43) rfl ?_);refine gl_ 7 Tryz.func43 #[.slice A0 l0.length c0] ?_;(with_reducible refine (impl_GoodLabels.calls k _ _ l0 false _ ?side1 ?side2 A2.out).mono ?_);(case side1=>repeat (first|exact HR0.out|(with_reducible refine Kd.C_alloc ?_ _)|(with_reducible refine Kd.C_drewN ?_ _)|(with_reducible refine Kd.C_drew ?_)));(case side2=>exact HC0.out);rintro e w23 ⟨rfl,hb⟩;refine ⟨_,rfl,?_⟩;replace HB:=am_ (below_step bl_ hb);(try clear hb)));go_ret;exact ⟨rf_,bl_⟩
def impl_suffixOf.f (a0:Int)(a1:ByteArray):Option (Bool):=if a0=1 then (some (a1.toList==([]:List UInt8))) else (if a0=2 then (some (a1.toList==([95,116,111,116,97,108]:List UInt8))) else (if a0=3 then (if a1.toList=([95,98,117,99,107,101,116]:List UInt8) then (some true) else (if a1.toList=([95,99,111,117,110,116]:List UInt8) then (some true) else (some (a1.toList==([95,115,117,109]:List UInt8))))) else (some (a1.toList==([95,105,110,102,111]:List UInt8)))))
theorem impl_suffixOf.calls (a0:Int)(a1:ByteArray)(r:Bool)(w:World)(h:impl_suffixOf.f a0 a1=some r) :
  Calls Tryz.prog 46 #[.int .i64 a0,.string a1] w fun e w'=>e = .returned (.bool r)/\Drawn0 w w':=by
 have H:=h;clear h;unfold impl_suffixOf.f at H
 by_cases c3:a0=1
 ·rw [if_pos c3] at H;have c3b0:=eb_ c3;have c3b1:=en_ c3;clear c3;obtain rfl:=si_ H;go_enter Tryz.func46,Tryz.ntmps46;go_wp2;go_ret;exact ⟨by first|rfl|(simp;done)|(simp [*];done),by repeat (first|exact Drawn0.refl _|apply Drawn0.step)⟩
 ·rw [if_neg c3] at H;have c3b0:=nb_ c3;have c3b1:=nn_ c3
  by_cases c4:a0=2
  ·rw [if_pos c4] at H;have c4b0:=eb_ c4;have c4b1:=en_ c4;clear c4;obtain rfl:=si_ H;go_enter Tryz.func46,Tryz.ntmps46;go_wp2;go_ret;exact ⟨by first|rfl|(simp;done)|(simp [*];done),by repeat (first|exact Drawn0.refl _|apply Drawn0.step)⟩
  ·rw [if_neg c4] at H;have c4b0:=nb_ c4;have c4b1:=nn_ c4
   by_cases c5:a0=3
   ·rw [if_pos c5] at H;have c5b0:=eb_ c5;have c5b1:=en_ c5;clear c5
    by_cases c6:a1.toList=([95,98,117,99,107,101,116]:List UInt8)
    ·rw [if_pos c6] at H;have c6b0:=eb_ c6;have c6b1:=en_ c6;clear c6;obtain rfl:=si_ H;go_enter Tryz.func46,Tryz.ntmps46;go_wp2;go_ret;exact ⟨by first|rfl|(simp;done)|(simp [*];done),by repeat (first|exact Drawn0.refl _|apply Drawn0.step)⟩
    ·rw [if_neg c6] at H;have c6b0:=nb_ c6;have c6b1:=nn_ c6
     by_cases c7:a1.toList=([95,99,111,117,110,116]:List UInt8)
     ·rw [if_pos c7] at H;have c7b0:=eb_ c7;have c7b1:=en_ c7;clear c7;obtain rfl:=si_ H;go_enter Tryz.func46,Tryz.ntmps46;go_wp2;go_ret;exact ⟨by first|rfl|(simp;done)|(simp [*];done),by repeat (first|exact Drawn0.refl _|apply Drawn0.step)⟩
     ·rw [if_neg c7] at H;have c7b0:=nb_ c7;have c7b1:=nn_ c7;obtain rfl:=si_ H;go_enter Tryz.func46,Tryz.ntmps46;go_wp2;go_ret;exact ⟨by first|rfl|(simp;done)|(simp [*];done),by repeat (first|exact Drawn0.refl _|apply Drawn0.step)⟩
   ·rw [if_neg c5] at H;have c5b0:=nb_ c5;have c5b1:=nn_ c5;obtain rfl:=si_ H;go_enter Tryz.func46,Tryz.ntmps46;go_wp2;go_ret;exact ⟨by first|rfl|(simp;done)|(simp [*];done),by repeat (first|exact Drawn0.refl _|apply Drawn0.step)⟩
def impl_valueOf.l0:Nat->ByteArray->List (S70)->Int->Int->Option (ByteArray)
 | 0,_,_,_,_=>none
 | k+1,x1,x7,x8,x9=>if x9<x8 then (if 0<=x9 then (if x9<(x7.length:Int) then (if ((rd_T70 x7 x9).f0).toList=x1.toList then (some ((rd_T70 x7 x9).f1)) else (impl_valueOf.l0 k x1 x7 x8 (wrap64 (x9+1)))) else (none)) else (none)) else (some (⟨#[]⟩:ByteArray))
def impl_valueOf.f (k:Nat)(l0:List (S70))(a1:ByteArray):Option (ByteArray):=impl_valueOf.l0 k a1 l0 (l0.length:Int) 0
theorem impl_valueOf.mono_l:∀ k,(∀ y0 y1 y2 y3,LeO (impl_valueOf.l0 k y0 y1 y2 y3) (impl_valueOf.l0 (k+1) y0 y1 y2 y3))
 | 0=>fun _ _ _ _ r h=>by simp [impl_valueOf.l0] at h
 | k+1=>by
  have ih0:=impl_valueOf.mono_l k
  ·intro y0 y1 y2 y3
   unfold impl_valueOf.l0
   repeat' with_reducible first|apply ih0|apply LeO.refl|apply LeO.none|apply LeO.ite|refine LeO.bind ?_ (fun _ => ?_)
theorem impl_valueOf.mono:∀ a0 a1 k,LeO (impl_valueOf.f k a0 a1) (impl_valueOf.f (k+1) a0 a1):=by
 intro a0 a1 k
 have ih0:=impl_valueOf.mono_l k
 unfold impl_valueOf.f
 repeat' with_reducible first|apply ih0|apply LeO.refl|apply LeO.none|apply LeO.ite|refine LeO.bind ?_ (fun _ => ?_)
theorem impl_valueOf.calls (k:Nat)(A0:Option Addr)(c0:Nat)(l0:List (S70))(a1:ByteArray)(r:ByteArray)(w:World)(hr0:Kd.C k70 w A0 l0.length l0)(hc0:l0.length<=c0)(h:impl_valueOf.f k l0 a1=some r) :
  Calls Tryz.prog 47 #[.slice A0 l0.length c0,.string a1] w fun e w'=>e = .returned (.string r)/\Below w.heap.size w w':=by
 have hu70:=Tryz.underlying70;have HR0:=am_ hr0;have HC0:=am_ hc0;clear hr0 hc0;have HB:=am_ (Below.refl w.heap.size w);have H:=h;clear h;unfold impl_valueOf.f at H;have H':=am_ H;clear H;go_enter Tryz.func47,Tryz.ntmps47;go_wp2
 go_loopg [9] k (fun kq v9 w'=>∃ (x9_1:Int),v9 = .int .i64 x9_1/\Aside0 (impl_valueOf.l0 kq a1 l0 (l0.length:Int) x9_1=some r)/\Aside0 (kq<=k)/\Aside0 (Below w.heap.size w w'))
 case atStart=>exact ⟨(0),rs_,H',⟨Nat.le_refl _⟩,⟨bl_⟩⟩
 case round =>
  clear H';obtain ⟨x9_1,rfl,HA,HK1,HB⟩:=hrel
  cases gk with
  | zero=>exact absurd HA.out (by simp [impl_valueOf.l0])
  | succ k1 =>
   have H:=HA.out;clear HA;simp only [impl_valueOf.l0] at H
   by_cases c3:x9_1<(l0.length:Int)
   ·rw [if_pos c3] at H;have c3b0:=decide_eq_true c3;clear c3;replace H:=is_ H;obtain ⟨c4,H⟩:=H;have c4b0:=decide_eq_true c4;clear c4;replace H:=is_ H;obtain ⟨c5,H⟩:=H;have c5b0:=decide_eq_true c5;clear c5
    by_cases c6:((rd_T70 l0 x9_1).f0).toList=a1.toList
    ·rw [if_pos c6] at H;have c6b0:=eb_ c6;have c6b1:=en_ c6;clear c6;obtain rfl:=si_ H;have p1001:0<=(x9_1:Int):=od_;have q1001:x9_1<(l0.length:Int):=od_;obtain ⟨ad1001,e1001,hx1001_0,hx1001_1⟩:=at_T70 HR0.out x9_1 p1001 q1001
     cases e1001
     replace hx1001_0:=kp_ HB hx1001_0;replace hx1001_1:=kp_ HB hx1001_1;replace p1001:=eq_true p1001;replace q1001:=eq_true q1001;go_wp2_with (first|((with_reducible refine gate_dst (N:=6) rfl ?_);refine bx_ 6 #[.string (⟨#[]⟩:ByteArray),.string (⟨#[]⟩:ByteArray)] 70 ?_;intro gb1002 hg w7 hbox hb;have BK1002:=am_ (hbox);have GW1002:=am_ (gs_ hg:w.heap.size<=gb1002);replace HB:=am_ (below_step bl_ hb);have GE1002:=GW1002;clear hb hbox hg;have hz8:=bk2_ BK1002));go_ret;exact ⟨rf_,bg_⟩
    ·rw [if_neg c6] at H;have c6b0:=nb_ c6;have c6b1:=nn_ c6;have H':=am_ H;clear H;have p1001:0<=(x9_1:Int):=od_;have q1001:x9_1<(l0.length:Int):=od_;obtain ⟨ad1001,e1001,hx1001_0,hx1001_1⟩:=at_T70 HR0.out x9_1 p1001 q1001
     cases e1001
     replace hx1001_0:=kp_ HB hx1001_0;replace hx1001_1:=kp_ HB hx1001_1;replace p1001:=eq_true p1001;replace q1001:=eq_true q1001;go_wp2_with (first|((with_reducible refine gate_dst (N:=6) rfl ?_);refine bx_ 6 #[.string (⟨#[]⟩:ByteArray),.string (⟨#[]⟩:ByteArray)] 70 ?_;intro gb1002 hg w9 hbox hb;have BK1002:=am_ (hbox);have GW1002:=am_ (gs_ hg:w.heap.size<=gb1002);replace HB:=am_ (below_step bl_ hb);have GE1002:=GW1002;clear hb hbox hg;have hz10:=bk2_ BK1002));go_roundg k1
     case measure=>have:=HK1.out;omega
     case rel=>exact ⟨(wrap64 (x9_1+1)),rs_,H',⟨by have:=HK1.out;omega⟩,⟨bg_⟩⟩
   ·rw [if_neg c3] at H;have c3b0:=decide_eq_false c3;clear c3;obtain rfl:=si_ H;go_wp2;go_ret;exact ⟨rf_,bl_⟩
def impl_isTime.f (a0:Int):Option (Bool):=if a0>=0 then (some (decide (a0<=1000000000000))) else (some false)
theorem impl_isTime.calls (a0:Int)(r:Bool)(w:World)(h:impl_isTime.f a0=some r) :
  Calls Tryz.prog 48 #[.int .i64 a0] w fun e w'=>e = .returned (.bool r)/\Drawn0 w w':=by
 have H:=h;clear h;unfold impl_isTime.f at H
 by_cases c2:a0>=0
 ·rw [if_pos c2] at H;have c2b0:decide (0<=a0)=true:=decide_eq_true c2;clear c2;obtain rfl:=si_ H;go_enter Tryz.func48,Tryz.ntmps48;go_wp2;go_ret;exact ⟨by first|rfl|(simp;done)|(simp [*];done),by repeat (first|exact Drawn0.refl _|apply Drawn0.step)⟩
 ·rw [if_neg c2] at H;have c2b0:decide (0<=a0)=false:=decide_eq_false c2;clear c2;obtain rfl:=si_ H;go_enter Tryz.func48,Tryz.ntmps48;go_wp2;go_ret;exact ⟨by first|rfl|(simp;done)|(simp [*];done),by repeat (first|exact Drawn0.refl _|apply Drawn0.step)⟩
mutual
def impl_goodPoint.j0:Nat->Bool->ByteArray->Int->ByteArray->List (S46)->ByteArray->List (S70)->Int->Bool->Int->Bool->List (S70)->Int->Option (Bool)
 | 0,_,_,_,_,_,_,_,_,_,_,_,_,_=>none
 | k+1,x42,x1002000,x1002001,x1002002,x1002003,x1003000,x1003001,x1003002,x1003003,x1003004,x1003005,x1003006,x1003007=>if x42=true then (some false) else (if x1003003=true then ((impl_isTime.f x1003004).bind fun t1007=>(if t1007=true then (impl_goodPoint.j1 k false x1002000 x1002001 x1002002 x1002003 x1003000 x1003001 x1003002 x1003003 x1003004 x1003005 x1003006 x1003007) else (impl_goodPoint.j1 k true x1002000 x1002001 x1002002 x1002003 x1003000 x1003001 x1003002 x1003003 x1003004 x1003005 x1003006 x1003007))) else (impl_goodPoint.j1 k (x1003004 != 0) x1002000 x1002001 x1002002 x1002003 x1003000 x1003001 x1003002 x1003003 x1003004 x1003005 x1003006 x1003007))
def impl_goodPoint.j1:Nat->Bool->ByteArray->Int->ByteArray->List (S46)->ByteArray->List (S70)->Int->Bool->Int->Bool->List (S70)->Int->Option (Bool)
 | 0,_,_,_,_,_,_,_,_,_,_,_,_,_=>none
 | k+1,x60,x1002000,x1002001,x1002002,x1002003,x1003000,x1003001,x1003002,x1003003,x1003004,x1003005,x1003006,x1003007=>if x60=true then (some false) else (if x1003005=true then ((impl_GoodLabels.f k x1003006).bind fun t1008=>(if t1008=true then (if x1003007=(-9223372036854775808) then (impl_goodPoint.j2 k true x1002000 x1002001 x1002002 x1002003 x1003000 x1003001 x1003002 x1003003 x1003004 x1003005 x1003006 x1003007) else (impl_goodPoint.j2 k false x1002000 x1002001 x1002002 x1002003 x1003000 x1003001 x1003002 x1003003 x1003004 x1003005 x1003006 x1003007)) else (impl_goodPoint.j2 k true x1002000 x1002001 x1002002 x1002003 x1003000 x1003001 x1003002 x1003003 x1003004 x1003005 x1003006 x1003007))) else (if (x1003006.length:Int)>0 then (impl_goodPoint.j2 k true x1002000 x1002001 x1002002 x1002003 x1003000 x1003001 x1003002 x1003003 x1003004 x1003005 x1003006 x1003007) else (impl_goodPoint.j2 k (x1003007 != 0) x1002000 x1002001 x1002002 x1002003 x1003000 x1003001 x1003002 x1003003 x1003004 x1003005 x1003006 x1003007)))
def impl_goodPoint.j2:Nat->Bool->ByteArray->Int->ByteArray->List (S46)->ByteArray->List (S70)->Int->Bool->Int->Bool->List (S70)->Int->Option (Bool)
 | 0,_,_,_,_,_,_,_,_,_,_,_,_,_=>none
 | k+1,x95,x1002000,x1002001,x1002002,x1002003,x1003000,x1003001,x1003002,x1003003,x1003004,x1003005,x1003006,x1003007=>if x95=true then (some false) else (if x1002001=1 then (some (!x1003005)) else (if x1002001=4 then (if x1003005=true then (some false) else (some (x1003002==1))) else (if x1002001=2 then (some (decide (x1003002>=0))) else (some true))))
end
def impl_goodPoint.f (k:Nat)(a0_0:ByteArray)(a0_1:Int)(a0_2:ByteArray)(l0_3:List (S46))(a1_0:ByteArray)(l1_1:List (S70))(a1_2:Int)(a1_3:Bool)(a1_4:Int)(a1_5:Bool)(l1_6:List (S70))(a1_7:Int):Option (Bool):=if a0_0.size+a1_0.size<=9223372036854775807 then ((impl_isName.f k (a0_0++a1_0)).bind fun t1003=>(if t1003=true then ((impl_suffixOf.f a0_1 a1_0).bind fun t1004=>(if t1004=true then ((impl_GoodLabels.f k l1_1).bind fun t1005=>(if t1005=true then (if (l1_1.length:Int)>19 then (impl_goodPoint.j0 k true a0_0 a0_1 a0_2 l0_3 a1_0 l1_1 a1_2 a1_3 a1_4 a1_5 l1_6 a1_7) else ((impl_valueOf.f k l1_1 (⟨#[95,110,97,109,101]⟩:ByteArray)).bind fun t1006=>(if t1006.toList=([]:List UInt8) then (impl_goodPoint.j0 k (a1_2==(-9223372036854775808)) a0_0 a0_1 a0_2 l0_3 a1_0 l1_1 a1_2 a1_3 a1_4 a1_5 l1_6 a1_7) else (impl_goodPoint.j0 k true a0_0 a0_1 a0_2 l0_3 a1_0 l1_1 a1_2 a1_3 a1_4 a1_5 l1_6 a1_7)))) else (impl_goodPoint.j0 k true a0_0 a0_1 a0_2 l0_3 a1_0 l1_1 a1_2 a1_3 a1_4 a1_5 l1_6 a1_7))) else (impl_goodPoint.j0 k true a0_0 a0_1 a0_2 l0_3 a1_0 l1_1 a1_2 a1_3 a1_4 a1_5 l1_6 a1_7))) else (impl_goodPoint.j0 k true a0_0 a0_1 a0_2 l0_3 a1_0 l1_1 a1_2 a1_3 a1_4 a1_5 l1_6 a1_7))) else (none)
theorem impl_goodPoint.mono_l:∀ k,(∀ y0 y1 y2 y3 y4 y5 y6 y7 y8 y9 y10 y11 y12,LeO (impl_goodPoint.j0 k y0 y1 y2 y3 y4 y5 y6 y7 y8 y9 y10 y11 y12) (impl_goodPoint.j0 (k+1) y0 y1 y2 y3 y4 y5 y6 y7 y8 y9 y10 y11 y12))/\(∀ y0 y1 y2 y3 y4 y5 y6 y7 y8 y9 y10 y11 y12,LeO (impl_goodPoint.j1 k y0 y1 y2 y3 y4 y5 y6 y7 y8 y9 y10 y11 y12) (impl_goodPoint.j1 (k+1) y0 y1 y2 y3 y4 y5 y6 y7 y8 y9 y10 y11 y12))/\(∀ y0 y1 y2 y3 y4 y5 y6 y7 y8 y9 y10 y11 y12,LeO (impl_goodPoint.j2 k y0 y1 y2 y3 y4 y5 y6 y7 y8 y9 y10 y11 y12) (impl_goodPoint.j2 (k+1) y0 y1 y2 y3 y4 y5 y6 y7 y8 y9 y10 y11 y12))
 | 0=>⟨fun _ _ _ _ _ _ _ _ _ _ _ _ _ r h=>by simp [impl_goodPoint.j0] at h,fun _ _ _ _ _ _ _ _ _ _ _ _ _ r h=>by simp [impl_goodPoint.j1] at h,fun _ _ _ _ _ _ _ _ _ _ _ _ _ r h=>by simp [impl_goodPoint.j2] at h⟩
 | k+1=>by
  obtain ⟨ih0,ih1,ih2⟩:=impl_goodPoint.mono_l k
  refine ⟨?_,?_,?_⟩
  ·intro y0 y1 y2 y3 y4 y5 y6 y7 y8 y9 y10 y11 y12
   unfold impl_goodPoint.j0
   repeat' with_reducible first|apply ih0|apply ih1|apply ih2|apply impl_GoodLabels.mono|apply impl_isName.mono|apply impl_valueOf.mono|apply LeO.refl|apply LeO.none|apply LeO.ite|refine LeO.bind ?_ (fun _ => ?_)
  ·intro y0 y1 y2 y3 y4 y5 y6 y7 y8 y9 y10 y11 y12
   unfold impl_goodPoint.j1
   repeat' with_reducible first|apply ih0|apply ih1|apply ih2|apply impl_GoodLabels.mono|apply impl_isName.mono|apply impl_valueOf.mono|apply LeO.refl|apply LeO.none|apply LeO.ite|refine LeO.bind ?_ (fun _ => ?_)
  ·intro y0 y1 y2 y3 y4 y5 y6 y7 y8 y9 y10 y11 y12
   unfold impl_goodPoint.j2
   repeat' with_reducible first|apply ih0|apply ih1|apply ih2|apply impl_GoodLabels.mono|apply impl_isName.mono|apply impl_valueOf.mono|apply LeO.refl|apply LeO.none|apply LeO.ite|refine LeO.bind ?_ (fun _ => ?_)
theorem impl_goodPoint.mono:∀ a0 a1 a2 a3 a4 a5 a6 a7 a8 a9 a10 a11 k,LeO (impl_goodPoint.f k a0 a1 a2 a3 a4 a5 a6 a7 a8 a9 a10 a11) (impl_goodPoint.f (k+1) a0 a1 a2 a3 a4 a5 a6 a7 a8 a9 a10 a11):=by
 intro a0 a1 a2 a3 a4 a5 a6 a7 a8 a9 a10 a11 k
 obtain ⟨ih0,ih1,ih2⟩:=impl_goodPoint.mono_l k
 unfold impl_goodPoint.f
 repeat' with_reducible first|apply ih0|apply ih1|apply ih2|apply impl_GoodLabels.mono|apply impl_isName.mono|apply impl_valueOf.mono|apply LeO.refl|apply LeO.none|apply LeO.ite|refine LeO.bind ?_ (fun _ => ?_)
theorem impl_goodPoint.calls (k:Nat)(a0_0:ByteArray)(a0_1:Int)(a0_2:ByteArray)(A0_3:Option Addr)(c0_3:Nat)(l0_3:List (S46))(a1_0:ByteArray)(A1_1:Option Addr)(c1_1:Nat)(l1_1:List (S70))(a1_2:Int)(a1_3:Bool)(a1_4:Int)(a1_5:Bool)(A1_6:Option Addr)(c1_6:Nat)(l1_6:List (S70))(a1_7:Int)(r:Bool)(w:World)(hr0_3:Kd.C k46 w A0_3 l0_3.length l0_3)(hc0_3:l0_3.length<=c0_3)(hr1_1:Kd.C k70 w A1_1 l1_1.length l1_1)(hc1_1:l1_1.length<=c1_1)(hr1_6:Kd.C k70 w A1_6 l1_6.length l1_6)(hc1_6:l1_6.length<=c1_6)(h:impl_goodPoint.f k a0_0 a0_1 a0_2 l0_3 a1_0 l1_1 a1_2 a1_3 a1_4 a1_5 l1_6 a1_7=some r) :
  Calls Tryz.prog 25 #[.agg #[.string a0_0,.int .i64 a0_1,.string a0_2,.slice A0_3 l0_3.length c0_3],.agg #[.string a1_0,.slice A1_1 l1_1.length c1_1,.int .i64 a1_2,.bool a1_3,.int .i64 a1_4,.bool a1_5,.slice A1_6 l1_6.length c1_6,.int .i64 a1_7]] w fun e w'=>e = .returned (.bool r)/\Below w.heap.size w w':=by
 have hu29:=Tryz.underlying29;have hu46:=Tryz.underlying46;have HR0_3:=am_ hr0_3;have HC0_3:=am_ hc0_3;clear hr0_3 hc0_3;have HR1_1:=am_ hr1_1;have HC1_1:=am_ hc1_1;clear hr1_1 hc1_1;have HR1_6:=am_ hr1_6;have HC1_6:=am_ hc1_6;clear hr1_6 hc1_6;have HB:=am_ (Below.refl w.heap.size w);have H:=h;clear h;unfold impl_goodPoint.f at H;have HC3:=am_ H;clear H;go_enter Tryz.func25,Tryz.ntmps25;go_upto_region 1 with (first|((with_reducible refine gate_dst (N:=2) rfl ?_);(try (refine gate_guard (by rfl) ?_;dsimp only));refine bx_ 2 #[.string a0_0,.int .i64 a0_1,.string a0_2,.slice A0_3 l0_3.length c0_3] 29 ?_;intro gb1001 hg w4 hbox hb;have BK1001:=am_ (hbox);have GW1001:=am_ (gs_ hg:w.heap.size<=gb1001);replace HB:=am_ (below_step bl_ hb);have GE1001:=GW1001;clear hb hbox hg)|((with_reducible refine gate_dst (N:=3) rfl ?_);(try (refine gate_guard (by rfl) ?_;dsimp only));refine bx_ 3 #[.string a1_0,.slice A1_1 l1_1.length c1_1,.int .i64 a1_2,.bool a1_3,.int .i64 a1_4,.bool a1_5,.slice A1_6 l1_6.length c1_6,.int .i64 a1_7] 46 ?_;intro gb1002 hg w5 hbox hb;have BK1002:=am_ (hbox);have GW1002:=am_ (gg_ hg:w.heap.size<=gb1002);have NB1001_1002:=nl_ BK1001 hg;have NB1002_1001:=nr_ BK1001 hg;replace BK1001:=vb_ BK1001 hb;replace HB:=am_ (below_step bg_ hb);have GE1002:=GW1002;clear hb hbox hg));(try simp only [Act.put,List.setIfInBounds_toArray,List.set_cons_zero,List.set_cons_succ])
 go_cut [42] (fun v42 wc=>∃ (kq:Nat) (x42_2:Bool),v42 = .bool x42_2/\Aside0 (impl_goodPoint.j0 kq x42_2 a0_0 a0_1 a0_2 l0_3 a1_0 l1_1 a1_2 a1_3 a1_4 a1_5 l1_6 a1_7=some r)/\Aside0 (kq<=k)/\Aside0 (wc.heap[gb1001]? = some (.cells #[.string a0_0,.int .i64 a0_1,.string a0_2,(.slice A0_3 l0_3.length c0_3)] 29 (0,0)))/\Aside0 (wc.heap[gb1002]? = some (.cells #[.string a1_0,(.slice A1_1 l1_1.length c1_1),.int .i64 a1_2,.bool a1_3,.int .i64 a1_4,.bool a1_5,(.slice A1_6 l1_6.length c1_6),.int .i64 a1_7] 46 (0,0)))/\Aside0 (Below w.heap.size w wc))
 case first =>
  have H:=HC3.out;clear HC3;replace H:=is_ H;obtain ⟨c6,H⟩:=H;have c6b0:=eq_true c6;have c6b1:=decide_eq_true c6;(try have c6b2:=eq_false (Nat.not_lt.2 c6));replace H:=bs_ H;obtain ⟨t1003,A7,H⟩:=H
  by_cases c8:t1003=true
  ·subst c8;replace H:=it_ H;replace H:=bs_ H;obtain ⟨t1004,A9,H⟩:=H
   by_cases c10:t1004=true
   ·subst c10;replace H:=it_ H;replace H:=bs_ H;obtain ⟨t1005,A11,H⟩:=H
    by_cases c12:t1005=true
    ·subst c12;replace H:=it_ H
     by_cases c13:(l1_1.length:Int)>19
     ·rw [if_pos c13] at H;have c13b0:=dg_ c13;have c13b1:decide (19<l1_1.length)=true:=decide_eq_true (by omega);clear c13;(first|rw [c13b0]|(simp only [i64_w,i32_w];rw [c13b0])|skip);have H':=am_ H;clear H;have hnb14:=NB1001_1002.out;have hnc14:=NB1002_1001.out;have hz15:=bk4_ BK1001;have hz16:=bk8_ BK1002;go_wp2_with (first|((with_reducible refine gate_callee (f:=22) rfl ?_);refine gl_ 10 Tryz.func22 #[.string (a0_0++a1_0)] ?_;(with_reducible refine (impl_isName.calls k (a0_0++a1_0) true _ A7.out).mono ?_);rintro e w' ⟨rfl,⟨nd,rfl⟩⟩;refine ⟨_,rfl,?_⟩)|(go_at_call 46;(with_reducible refine (impl_suffixOf.calls a0_1 a1_0 true _ A9.out).mono ?_);rintro e w' ⟨rfl,⟨nd,rfl⟩⟩)|(go_at_call 43;(with_reducible refine (impl_GoodLabels.calls k _ _ l1_1 true _ ?side1 ?side2 A11.out).mono ?_);(case side1=>exact cc_ (Kd.C_below HR1_1.out bg_));(case side2=>exact HC1_1.out);rintro e w17 ⟨rfl,hb⟩;replace BK1001:=vb_ BK1001 hb;replace BK1002:=vb_ BK1002 hb;replace HB:=am_ (below_step bg_ hb);(try clear hb);have hz18:=bk8_ BK1002));go_meet
      case rel=>exact ⟨_,(true),rs_,H',⟨by first|omega|exact Nat.le_refl _⟩,⟨vk_ BK1001⟩,⟨vk_ BK1002⟩,⟨bg_⟩⟩
     ·rw [if_neg c13] at H;have c13b0:=df_ c13;have c13b1:decide (19<l1_1.length)=false:=decide_eq_false (by omega);clear c13;(first|rw [c13b0]|(simp only [i64_w,i32_w];rw [c13b0])|skip);replace H:=bs_ H;obtain ⟨t1006,A19,H⟩:=H
      by_cases c20:t1006.toList=([]:List UInt8)
      ·rw [if_pos c20] at H;have c20b0:=eb_ c20;have c20b1:=en_ c20;clear c20;have H':=am_ H;clear H;have hnb21:=NB1001_1002.out;have hnc21:=NB1002_1001.out;have hz22:=bk4_ BK1001;have hz23:=bk8_ BK1002;go_wp2_with (first|((with_reducible refine gate_callee (f:=22) rfl ?_);refine gl_ 10 Tryz.func22 #[.string (a0_0++a1_0)] ?_;(with_reducible refine (impl_isName.calls k (a0_0++a1_0) true _ A7.out).mono ?_);rintro e w' ⟨rfl,⟨nd,rfl⟩⟩;refine ⟨_,rfl,?_⟩)|(go_at_call 46;(with_reducible refine (impl_suffixOf.calls a0_1 a1_0 true _ A9.out).mono ?_);rintro e w' ⟨rfl,⟨nd,rfl⟩⟩)|(go_at_call 43;(with_reducible refine (impl_GoodLabels.calls k _ _ l1_1 true _ ?side1 ?side2 A11.out).mono ?_);(case side1=>exact cc_ (Kd.C_below HR1_1.out bg_));(case side2=>exact HC1_1.out);rintro e w24 ⟨rfl,hb⟩;replace BK1001:=vb_ BK1001 hb;replace BK1002:=vb_ BK1002 hb;replace HB:=am_ (below_step bg_ hb);(try clear hb);have hz25:=bk8_ BK1002)|(go_at_call 47;(with_reducible refine (impl_valueOf.calls k _ _ l1_1 (⟨#[95,110,97,109,101]⟩:ByteArray) t1006 _ ?side1 ?side2 A19.out).mono ?_);(case side1=>exact cc_ (Kd.C_below HR1_1.out HB.out));(case side2=>exact HC1_1.out);rintro e w26 ⟨rfl,hb⟩;replace BK1001:=vb_ BK1001 hb;replace BK1002:=vb_ BK1002 hb;replace HB:=am_ (below_step bg_ hb);(try clear hb);have hz27:=bk8_ BK1002));go_meet
       case rel=>exact ⟨_,((a1_2==(-9223372036854775808))),rs_,H',⟨by first|omega|exact Nat.le_refl _⟩,⟨vk_ BK1001⟩,⟨vk_ BK1002⟩,⟨bg_⟩⟩
      ·rw [if_neg c20] at H;have c20b0:=nb_ c20;have c20b1:=nn_ c20;have H':=am_ H;clear H;have hnb28:=NB1001_1002.out;have hnc28:=NB1002_1001.out;have hz29:=bk4_ BK1001;have hz30:=bk8_ BK1002;go_wp2_with (first|((with_reducible refine gate_callee (f:=22) rfl ?_);refine gl_ 10 Tryz.func22 #[.string (a0_0++a1_0)] ?_;(with_reducible refine (impl_isName.calls k (a0_0++a1_0) true _ A7.out).mono ?_);rintro e w' ⟨rfl,⟨nd,rfl⟩⟩;refine ⟨_,rfl,?_⟩)|(go_at_call 46;(with_reducible refine (impl_suffixOf.calls a0_1 a1_0 true _ A9.out).mono ?_);rintro e w' ⟨rfl,⟨nd,rfl⟩⟩)|(go_at_call 43;(with_reducible refine (impl_GoodLabels.calls k _ _ l1_1 true _ ?side1 ?side2 A11.out).mono ?_);(case side1=>exact cc_ (Kd.C_below HR1_1.out bg_));(case side2=>exact HC1_1.out);rintro e w31 ⟨rfl,hb⟩;replace BK1001:=vb_ BK1001 hb;replace BK1002:=vb_ BK1002 hb;replace HB:=am_ (below_step bg_ hb);(try clear hb);have hz32:=bk8_ BK1002)|(go_at_call 47;(with_reducible refine (impl_valueOf.calls k _ _ l1_1 (⟨#[95,110,97,109,101]⟩:ByteArray) t1006 _ ?side1 ?side2 A19.out).mono ?_);(case side1=>exact cc_ (Kd.C_below HR1_1.out HB.out));(case side2=>exact HC1_1.out);rintro e w33 ⟨rfl,hb⟩;replace BK1001:=vb_ BK1001 hb;replace BK1002:=vb_ BK1002 hb;replace HB:=am_ (below_step bg_ hb);(try clear hb)));go_meet
       case rel=>exact ⟨_,(true),rs_,H',⟨by first|omega|exact Nat.le_refl _⟩,⟨vk_ BK1001⟩,⟨vk_ BK1002⟩,⟨bg_⟩⟩
    ·replace c12:=Bool.eq_false_iff.mpr c12;subst c12;replace H:=if_ H;have H':=am_ H;clear H;have hnb34:=NB1001_1002.out;have hnc34:=NB1002_1001.out;have hz35:=bk4_ BK1001;have hz36:=bk8_ BK1002;go_wp2_with (first|((with_reducible refine gate_callee (f:=22) rfl ?_);refine gl_ 10 Tryz.func22 #[.string (a0_0++a1_0)] ?_;(with_reducible refine (impl_isName.calls k (a0_0++a1_0) true _ A7.out).mono ?_);rintro e w' ⟨rfl,⟨nd,rfl⟩⟩;refine ⟨_,rfl,?_⟩)|(go_at_call 46;(with_reducible refine (impl_suffixOf.calls a0_1 a1_0 true _ A9.out).mono ?_);rintro e w' ⟨rfl,⟨nd,rfl⟩⟩)|(go_at_call 43;(with_reducible refine (impl_GoodLabels.calls k _ _ l1_1 false _ ?side1 ?side2 A11.out).mono ?_);(case side1=>exact cc_ (Kd.C_below HR1_1.out bg_));(case side2=>exact HC1_1.out);rintro e w37 ⟨rfl,hb⟩;replace BK1001:=vb_ BK1001 hb;replace BK1002:=vb_ BK1002 hb;replace HB:=am_ (below_step bg_ hb);(try clear hb)));go_meet
     case rel=>exact ⟨_,(true),rs_,H',⟨by first|omega|exact Nat.le_refl _⟩,⟨vk_ BK1001⟩,⟨vk_ BK1002⟩,⟨bg_⟩⟩
   ·replace c10:=Bool.eq_false_iff.mpr c10;subst c10;replace H:=if_ H;have H':=am_ H;clear H;have hnb38:=NB1001_1002.out;have hnc38:=NB1002_1001.out;have hz39:=bk4_ BK1001;have hz40:=bk8_ BK1002;go_wp2_with (first|((with_reducible refine gate_callee (f:=22) rfl ?_);refine gl_ 10 Tryz.func22 #[.string (a0_0++a1_0)] ?_;(with_reducible refine (impl_isName.calls k (a0_0++a1_0) true _ A7.out).mono ?_);rintro e w' ⟨rfl,⟨nd,rfl⟩⟩;refine ⟨_,rfl,?_⟩)|(go_at_call 46;(with_reducible refine (impl_suffixOf.calls a0_1 a1_0 false _ A9.out).mono ?_);rintro e w' ⟨rfl,⟨nd,rfl⟩⟩));go_meet
    case rel=>exact ⟨_,(true),rs_,H',⟨by first|omega|exact Nat.le_refl _⟩,⟨vk_ BK1001⟩,⟨vk_ BK1002⟩,⟨bg_⟩⟩
  ·replace c8:=Bool.eq_false_iff.mpr c8;subst c8;replace H:=if_ H;have H':=am_ H;clear H;have hnb41:=NB1001_1002.out;have hnc41:=NB1002_1001.out;have hz42:=bk4_ BK1001;have hz43:=bk8_ BK1002;go_wp2_with (first|((with_reducible refine gate_callee (f:=22) rfl ?_);refine gl_ 10 Tryz.func22 #[.string (a0_0++a1_0)] ?_;(with_reducible refine (impl_isName.calls k (a0_0++a1_0) false _ A7.out).mono ?_);rintro e w' ⟨rfl,⟨nd,rfl⟩⟩;refine ⟨_,rfl,?_⟩));go_meet
   case rel=>exact ⟨_,(true),rs_,H',⟨by first|omega|exact Nat.le_refl _⟩,⟨vk_ BK1001⟩,⟨vk_ BK1002⟩,⟨bg_⟩⟩
 case rest =>
  clear HC3;obtain ⟨kq,x42_2,rfl,HA,HJ2,BK1001,BK1002,HB⟩:=hcut
  cases kq with
  | zero=>exact absurd HA.out (by simp [impl_goodPoint.j0])
  | succ kj2 =>
   have H:=HA.out;clear HA;simp only [impl_goodPoint.j0] at H
   by_cases c44:x42_2=true
   ·subst c44;replace H:=it_ H;obtain rfl:=si_ H;go_wp2;go_ret;exact ⟨rf_,bg_⟩
   ·replace c44:=Bool.eq_false_iff.mpr c44;subst c44;replace H:=if_ H;have HC45:=am_ H;clear H;go_upto_region 3 with (fail)
    go_cut [60] (fun v60 wc=>∃ (kq:Nat) (x60_44:Bool),v60 = .bool x60_44/\Aside0 (impl_goodPoint.j1 kq x60_44 a0_0 a0_1 a0_2 l0_3 a1_0 l1_1 a1_2 a1_3 a1_4 a1_5 l1_6 a1_7=some r)/\Aside0 (kq<=kj2)/\Aside0 (wc.heap[gb1001]? = some (.cells #[.string a0_0,.int .i64 a0_1,.string a0_2,(.slice A0_3 l0_3.length c0_3)] 29 (0,0)))/\Aside0 (wc.heap[gb1002]? = some (.cells #[.string a1_0,(.slice A1_1 l1_1.length c1_1),.int .i64 a1_2,.bool a1_3,.int .i64 a1_4,.bool a1_5,(.slice A1_6 l1_6.length c1_6),.int .i64 a1_7] 46 (0,0)))/\Aside0 (Below w.heap.size w wc))
    case first =>
     have H:=HC45.out;clear HC45
     by_cases c46:a1_3=true
     ·subst c46;replace H:=it_ H;replace H:=bs_ H;obtain ⟨t1007,A47,H⟩:=H
      by_cases c48:t1007=true
      ·subst c48;replace H:=it_ H;have H':=am_ H;clear H;have hnb49:=NB1002_1001.out;have hnc49:=NB1001_1002.out;have hz50:=bk8_ BK1002;go_wp2_with (first|(go_at_call 48;(with_reducible refine (impl_isTime.calls a1_4 true _ A47.out).mono ?_);rintro e w' ⟨rfl,⟨nd,rfl⟩⟩));go_meet
       case rel=>exact ⟨_,(false),rs_,H',⟨by have:=HJ2.out;first|omega|exact Nat.le_refl _⟩,⟨vk_ BK1001⟩,⟨vk_ BK1002⟩,⟨bg_⟩⟩
      ·replace c48:=Bool.eq_false_iff.mpr c48;subst c48;replace H:=if_ H;have H':=am_ H;clear H;have hnb51:=NB1002_1001.out;have hnc51:=NB1001_1002.out;have hz52:=bk8_ BK1002;go_wp2_with (first|(go_at_call 48;(with_reducible refine (impl_isTime.calls a1_4 false _ A47.out).mono ?_);rintro e w' ⟨rfl,⟨nd,rfl⟩⟩));go_meet
       case rel=>exact ⟨_,(true),rs_,H',⟨by have:=HJ2.out;first|omega|exact Nat.le_refl _⟩,⟨vk_ BK1001⟩,⟨vk_ BK1002⟩,⟨bg_⟩⟩
     ·replace c46:=Bool.eq_false_iff.mpr c46;subst c46;replace H:=if_ H;have H':=am_ H;clear H;have hnb53:=NB1002_1001.out;have hnc53:=NB1001_1002.out;have hz54:=bk8_ BK1002;go_wp2;go_meet
      case rel=>exact ⟨_,((a1_4 != 0)),rs_,H',⟨by have:=HJ2.out;first|omega|exact Nat.le_refl _⟩,⟨vk_ BK1001⟩,⟨vk_ BK1002⟩,⟨bg_⟩⟩
    case rest =>
     clear HC45;(try clear c44);obtain ⟨kq,x60_44,rfl,HA,HJ44,BK1001,BK1002,HB⟩:=hcut
     cases kq with
     | zero=>exact absurd HA.out (by simp [impl_goodPoint.j1])
     | succ kj44 =>
      have H:=HA.out;clear HA;simp only [impl_goodPoint.j1] at H
      by_cases c55:x60_44=true
      ·subst c55;replace H:=it_ H;obtain rfl:=si_ H;go_wp2;go_ret;exact ⟨rf_,bg_⟩
      ·replace c55:=Bool.eq_false_iff.mpr c55;subst c55;replace H:=if_ H;have HC56:=am_ H;clear H;go_upto_region 5 with (fail)
       go_cut [95] (fun v95 wc=>∃ (kq:Nat) (x95_55:Bool),v95 = .bool x95_55/\Aside0 (impl_goodPoint.j2 kq x95_55 a0_0 a0_1 a0_2 l0_3 a1_0 l1_1 a1_2 a1_3 a1_4 a1_5 l1_6 a1_7=some r)/\Aside0 (kq<=kj44)/\Aside0 (wc.heap[gb1001]? = some (.cells #[.string a0_0,.int .i64 a0_1,.string a0_2,(.slice A0_3 l0_3.length c0_3)] 29 (0,0)))/\Aside0 (wc.heap[gb1002]? = some (.cells #[.string a1_0,(.slice A1_1 l1_1.length c1_1),.int .i64 a1_2,.bool a1_3,.int .i64 a1_4,.bool a1_5,(.slice A1_6 l1_6.length c1_6),.int .i64 a1_7] 46 (0,0)))/\Aside0 (Below w.heap.size w wc))
       case first =>
        have H:=HC56.out;clear HC56
        by_cases c57:a1_5=true
        ·subst c57;replace H:=it_ H;replace H:=bs_ H;obtain ⟨t1008,A58,H⟩:=H
         by_cases c59:t1008=true
         ·subst c59;replace H:=it_ H
          by_cases c60:a1_7=(-9223372036854775808)
          ·rw [if_pos c60] at H;have c60b0:=eb_ c60;have c60b1:=en_ c60;clear c60;(first|rw [c60b0]|(simp only [i64_w,i32_w];rw [c60b0])|skip);have H':=am_ H;clear H;have hnb61:=NB1002_1001.out;have hnc61:=NB1001_1002.out;have hz62:=bk8_ BK1002;go_wp2_with (first|(go_at_call 43;(with_reducible refine (impl_GoodLabels.calls kj44 _ _ l1_6 true _ ?side1 ?side2 A58.out).mono ?_);(case side1=>exact cc_ (Kd.C_below HR1_6.out HB.out));(case side2=>exact HC1_6.out);rintro e w63 ⟨rfl,hb⟩;replace BK1001:=vb_ BK1001 hb;replace BK1002:=vb_ BK1002 hb;replace HB:=am_ (below_step bg_ hb);(try clear hb);have hz64:=bk8_ BK1002));go_meet
           case rel=>exact ⟨_,(true),rs_,H',⟨by have:=HJ2.out;have:=HJ44.out;first|omega|exact Nat.le_refl _⟩,⟨vk_ BK1001⟩,⟨vk_ BK1002⟩,⟨bg_⟩⟩
          ·rw [if_neg c60] at H;have c60b0:=nb_ c60;have c60b1:=nn_ c60;(first|rw [c60b0]|(simp only [i64_w,i32_w];rw [c60b0])|skip);have H':=am_ H;clear H;have hnb65:=NB1002_1001.out;have hnc65:=NB1001_1002.out;have hz66:=bk8_ BK1002;go_wp2_with (first|(go_at_call 43;(with_reducible refine (impl_GoodLabels.calls kj44 _ _ l1_6 true _ ?side1 ?side2 A58.out).mono ?_);(case side1=>exact cc_ (Kd.C_below HR1_6.out HB.out));(case side2=>exact HC1_6.out);rintro e w67 ⟨rfl,hb⟩;replace BK1001:=vb_ BK1001 hb;replace BK1002:=vb_ BK1002 hb;replace HB:=am_ (below_step bg_ hb);(try clear hb);have hz68:=bk8_ BK1002));go_meet
           case rel=>exact ⟨_,(false),rs_,H',⟨by have:=HJ2.out;have:=HJ44.out;first|omega|exact Nat.le_refl _⟩,⟨vk_ BK1001⟩,⟨vk_ BK1002⟩,⟨bg_⟩⟩
         ·replace c59:=Bool.eq_false_iff.mpr c59;subst c59;replace H:=if_ H;have H':=am_ H;clear H;have hnb69:=NB1002_1001.out;have hnc69:=NB1001_1002.out;have hz70:=bk8_ BK1002;go_wp2_with (first|(go_at_call 43;(with_reducible refine (impl_GoodLabels.calls kj44 _ _ l1_6 false _ ?side1 ?side2 A58.out).mono ?_);(case side1=>exact cc_ (Kd.C_below HR1_6.out HB.out));(case side2=>exact HC1_6.out);rintro e w71 ⟨rfl,hb⟩;replace BK1001:=vb_ BK1001 hb;replace BK1002:=vb_ BK1002 hb;replace HB:=am_ (below_step bg_ hb);(try clear hb)));go_meet
          case rel=>exact ⟨_,(true),rs_,H',⟨by have:=HJ2.out;have:=HJ44.out;first|omega|exact Nat.le_refl _⟩,⟨vk_ BK1001⟩,⟨vk_ BK1002⟩,⟨bg_⟩⟩
        ·replace c57:=Bool.eq_false_iff.mpr c57;subst c57;replace H:=if_ H
         by_cases c72:(l1_6.length:Int)>0
         ·rw [if_pos c72] at H;have c72b0:=dg_ c72;have c72b1:decide (0<l1_6.length)=true:=decide_eq_true (by omega);have c72b2:0<l1_6.length:=by omega
          clear c72;have H':=am_ H;clear H;have hnb73:=NB1002_1001.out;have hnc73:=NB1001_1002.out;have hz74:=bk8_ BK1002;go_wp2;go_meet
          case rel=>exact ⟨_,(true),rs_,H',⟨by have:=HJ2.out;have:=HJ44.out;first|omega|exact Nat.le_refl _⟩,⟨vk_ BK1001⟩,⟨vk_ BK1002⟩,⟨bg_⟩⟩
         ·rw [if_neg c72] at H;have c72b0:=df_ c72;have c72b1:decide (0<l1_6.length)=false:=decide_eq_false (by omega);have c72b2:¬ 0<l1_6.length:=by omega
          clear c72;have H':=am_ H;clear H;have hnb75:=NB1002_1001.out;have hnc75:=NB1001_1002.out;have hz76:=bk8_ BK1002;go_wp2;go_meet
          case rel=>exact ⟨_,((a1_7 != 0)),rs_,H',⟨by have:=HJ2.out;have:=HJ44.out;first|omega|exact Nat.le_refl _⟩,⟨vk_ BK1001⟩,⟨vk_ BK1002⟩,⟨bg_⟩⟩
       case rest =>
        clear HC56;(try clear c55);obtain ⟨kq,x95_55,rfl,HA,HJ55,BK1001,BK1002,HB⟩:=hcut
        cases kq with
        | zero=>exact absurd HA.out (by simp [impl_goodPoint.j2])
        | succ kj55 =>
         have H:=HA.out;clear HA;simp only [impl_goodPoint.j2] at H
         by_cases c77:x95_55=true
         ·subst c77;replace H:=it_ H;obtain rfl:=si_ H;go_wp2;go_ret;exact ⟨rf_,bg_⟩
         ·replace c77:=Bool.eq_false_iff.mpr c77;subst c77;replace H:=if_ H
          by_cases c78:a0_1=1
          ·rw [if_pos c78] at H;have c78b0:=eb_ c78;have c78b1:=en_ c78;clear c78;obtain rfl:=si_ H;have hnb79:=NB1001_1002.out;have hnc79:=NB1002_1001.out;have hz80:=bk4_ BK1001;have hz81:=bk8_ BK1002;go_wp2;go_ret;exact ⟨rf_,bg_⟩
          ·rw [if_neg c78] at H;have c78b0:=nb_ c78;have c78b1:=nn_ c78
           by_cases c82:a0_1=4
           ·rw [if_pos c82] at H;have c82b0:=eb_ c82;have c82b1:=en_ c82;clear c82
            by_cases c83:a1_5=true
            ·subst c83;replace H:=it_ H;obtain rfl:=si_ H;have hnb84:=NB1001_1002.out;have hnc84:=NB1002_1001.out;have hz85:=bk4_ BK1001;have hz86:=bk8_ BK1002;go_wp2;go_ret;exact ⟨rf_,bg_⟩
            ·replace c83:=Bool.eq_false_iff.mpr c83;subst c83;replace H:=if_ H;obtain rfl:=si_ H;have hnb87:=NB1001_1002.out;have hnc87:=NB1002_1001.out;have hz88:=bk4_ BK1001;have hz89:=bk8_ BK1002;go_wp2;go_ret;exact ⟨rf_,bg_⟩
           ·rw [if_neg c82] at H;have c82b0:=nb_ c82;have c82b1:=nn_ c82
            by_cases c90:a0_1=2
            ·rw [if_pos c90] at H;have c90b0:=eb_ c90;have c90b1:=en_ c90;clear c90;obtain rfl:=si_ H;have hnb91:=NB1001_1002.out;have hnc91:=NB1002_1001.out;have hz92:=bk4_ BK1001;have hz93:=bk8_ BK1002;go_wp2;go_ret;exact ⟨rf_,bg_⟩
            ·rw [if_neg c90] at H;have c90b0:=nb_ c90;have c90b1:=nn_ c90;obtain rfl:=si_ H;have hnb94:=NB1001_1002.out;have hnc94:=NB1002_1001.out;have hz95:=bk4_ BK1001;go_wp2;go_ret;exact ⟨rf_,bg_⟩
def impl_Label_76.l0 (P:S70->Option Bool)(l0:List (S70)):Nat->List (S70)->Int->Option (List (S70))
 | 0,_,_=>none
 | k+1,x5,x10=>if x10<(l0.length:Int) then (if 0<=x10 then ((P (⟨(rd_T70 l0 x10).f0,(rd_T70 l0 x10).f1⟩:S70)).bind fun b=>(if b=true then (if x5.length<4398046511104 then (impl_Label_76.l0 P l0 k (x5++[(⟨(rd_T70 l0 x10).f0,(rd_T70 l0 x10).f1⟩:S70)]) (wrap64 (x10+1))) else none) else (impl_Label_76.l0 P l0 k x5 (wrap64 (x10+1))))) else none) else some x5
def impl_Label_76.f (k:Nat)(P:S70->Option Bool)(l0:List (S70)):Option (List (S70)):=impl_Label_76.l0 P l0 k [] 0
theorem impl_Label_76.mono_l (P P':S70->Option Bool)(hP:∀ x,LeO (P x) (P' x))(l0:List (S70)):∀ k x5 x10,LeO (impl_Label_76.l0 P l0 k x5 x10) (impl_Label_76.l0 P' l0 (k+1) x5 x10)
 | 0,_,_=>LeO.none _
 | k+1,x5,x10=>by
  have ih:=impl_Label_76.mono_l P P' hP l0 k
  unfold impl_Label_76.l0
  exact LeO.ite (LeO.ite (LeO.bind (hP _) (fun _=>LeO.ite (LeO.ite (ih _ _) (LeO.none _)) (ih _ _))) (LeO.none _)) (LeO.refl _)
theorem impl_Label_76.mono (P P':S70->Option Bool)(hP:∀ x,LeO (P x) (P' x))(l0:List (S70))(k:Nat):LeO (impl_Label_76.f k P l0) (impl_Label_76.f (k+1) P' l0):=impl_Label_76.mono_l P P' hP l0 k _ _
theorem impl_Label_76.calls (k:Nat)(P:S70->Option Bool)(g:Nat)(lb:Array Value)(eg:∀ args w,(callFunc g args).run Tryz.prog w = .ok (.enter g args) w)(A0:Option Addr)(c0:Nat)(l0:List (S70))(r:List (S70))(w:World)(hr0:Kd.C k70 w A0 l0.length l0)(hc0:l0.length<=c0)
  (hP:∀ (W:World) (x:S70) (b:Bool),Below w.heap.size w W->P x=some b->Calls Tryz.prog g (#[.agg #[.string (x.f0),.string (x.f1)]]++lb) W fun e w'=>e = .returned (.bool b)/\Below W.heap.size W w') (h:impl_Label_76.f k P l0=some r) :
  Calls Tryz.prog 76 #[.slice A0 l0.length c0,.func (.func g) #[] lb] w fun e w'=>∃ v0_:Value,e = .returned (v0_)/\Kd.R k70 70 w' w.heap.size (fun _=>True) v0_ r/\Below w.heap.size w w':=by
 have hu:=Tryz.underlying70
 have HR0:=am_ hr0
 have HC0:=am_ hc0
 clear hr0 hc0
 have HB:=am_ (Below.refl w.heap.size w)
 have hP':=am_ hP
 clear hP
 have H':=am_ (show impl_Label_76.l0 P l0 k [] 0=some r from h)
 clear h
 go_enter Tryz.func76,Tryz.ntmps76
 go_wp2
 go_loopg [5,10] k (fun kq v5 v10 w'=>∃ (x5_1:List (S70)) (x10_1:Int),v10 = .int .i64 x10_1/\Aside0 (impl_Label_76.l0 P l0 kq x5_1 x10_1=some r)/\Aside0 (Kd.R k70 70 w' w.heap.size (fun _=>True) v5 x5_1)/\Aside0 (Below w.heap.size w w'))
 case atStart=>exact ⟨[],0,rs_,H',⟨ni_⟩,⟨bl_⟩⟩
 case round =>
  clear H'
  obtain ⟨x5_1,x10_1,rfl,HA,HO_5,HB⟩:=hrel
  cases gk with
  | zero=>exact absurd HA.out (by simp [impl_Label_76.l0])
  | succ k1 =>
   have H:=HA.out
   clear HA
   simp only [impl_Label_76.l0] at H
   by_cases c4:x10_1<(l0.length:Int)
   ·rw [if_pos c4] at H
    have c4b0:decide (x10_1<(l0.length:Int))=true:=decide_eq_true c4
    by_cases c5:0<=x10_1
    ·rw [if_pos c5] at H
     have c5b0:decide (0<=x10_1)=true:=decide_eq_true c5
     obtain ⟨b,hb0,H⟩:=Option.bind_eq_some_iff.mp H
     have HP0:=am_ hb0
     clear hb0
     obtain ⟨ad,e_,hx_0,hx_1⟩:=at_T70 HR0.out x10_1 c5 c4
     cases e_
     replace hx_0:=kp_ HB hx_0
     replace hx_1:=kp_ HB hx_1
     have p_:=eq_true c5
     have q_:=eq_true c4
     clear c4 c5
     have HC7:=am_ H
     clear H
     go_upto_region 5 with (first|((with_reducible refine gate_dst (N:=7) rfl ?_);refine bx_ 7 #[.string (⟨#[]⟩:ByteArray),.string (⟨#[]⟩:ByteArray)] 70 ?_;intro gb hg w8 hbox hb;have BK:=am_ (hbox);have GE:=am_ (gs_ hg:w.heap.size<=gb);replace HO_5:=am_ (Kd.R_below (Kd.R_elderB (ro_ HO_5) gb (Nat.le_of_eq hg.symm)) hb);replace HB:=am_ (below_step bl_ hb);clear hb hbox hg;have hcz1_0:=bc2_0 BK;have hfz1_0:=bf_ BK 0;have hcz1_1:=bc2_1 BK;have hfz1_1:=bf_ BK 1))
     have n0_:Aside0 (Kd.R k70 70 (((w8).setCell ⟨gb,0,none⟩ (.string ((rd_T70 l0 x10_1).f0))).setCell ⟨gb,1,none⟩ (.string ((rd_T70 l0 x10_1).f1))) w.heap.size (fun k_=>k_≠gb) u5 x5_1):=⟨Kd.R_mono (Kd.R_far (p:=⟨gb,1,none⟩) (Kd.R_far (p:=⟨gb,0,none⟩) (Kd.R_mono HO_5.out (fun k_ hk=>(⟨hk,hk.2⟩:_/\k_≠gb))) (fun _ hk=>hk.2) (.string ((rd_T70 l0 x10_1).f0))) (fun _ hk=>hk.2) (.string ((rd_T70 l0 x10_1).f1))) (fun _ hk=>hk.1.2)⟩
     have n1_:Aside0 ((((w8).setCell ⟨gb,0,none⟩ (.string ((rd_T70 l0 x10_1).f0))).setCell ⟨gb,1,none⟩ (.string ((rd_T70 l0 x10_1).f1))).heap[gb]? = some (.cells #[.string ((rd_T70 l0 x10_1).f0),.string ((rd_T70 l0 x10_1).f1)] 70 (0,0))):=⟨by refine blk_put (cs:=#[.string ((rd_T70 l0 x10_1).f0),.string (⟨#[]⟩:ByteArray)]) ?_ 1 _ rfl;refine blk_put (cs:=#[.string (⟨#[]⟩:ByteArray),.string (⟨#[]⟩:ByteArray)]) ?_ 0 _ rfl;exact BK.out⟩
     have n2_:Aside0 (Below w.heap.size w (((w8).setCell ⟨gb,0,none⟩ (.string ((rd_T70 l0 x10_1).f0))).setCell ⟨gb,1,none⟩ (.string ((rd_T70 l0 x10_1).f1)))):=⟨bg_⟩
     clear HO_5 BK HB
     generalize ((w8).setCell ⟨gb,0,none⟩ (.string ((rd_T70 l0 x10_1).f0))).setCell ⟨gb,1,none⟩ (.string ((rd_T70 l0 x10_1).f1))=w9 at n0_ n1_ n2_ ⊢
     have HO_5:=n0_
     have BK:=n1_
     have HB:=n2_
     clear n0_ n1_ n2_
     have hcz2_0:=bc2_0 BK;have hfz2_0:=bf_ BK 0;have hcz2_1:=bc2_1 BK;have hfz2_1:=bf_ BK 1
     cases b with
     | true =>
      have H:=HC7.out
      rw [if_pos rfl] at H
      by_cases c13:x5_1.length<4398046511104
      ·rw [if_pos c13] at H
       have LM:=am_ c13
       clear c13
       obtain ⟨y,hy⟩:∃ y_:List (S70),y_=x5_1++[(⟨(rd_T70 l0 x10_1).f0,(rd_T70 l0 x10_1).f1⟩:S70)]:=⟨_,rfl⟩
       rw [← hy] at H
       have Ny:=am_ hy
       clear hy
       have H':=am_ H
       clear H
       go_wp2_with (first|(with_reducible refine Calls.mono (hP'.out w9 (⟨(rd_T70 l0 x10_1).f0,(rd_T70 l0 x10_1).f1⟩:S70) true HB.out HP0.out) ?_;rintro e w10 ⟨rfl,hb⟩;have n0_:=am_ (Kd.R_below HO_5.out hb);have n1_:=am_ (blk_below BK.out hb);have n2_:=am_ (below_step HB.out hb);clear HO_5 BK HB;have HO_5:=n0_;have BK:=n1_;have HB:=n2_;clear n0_ n1_ n2_ hb;have hcz3_0:=bc2_0 BK;have hfz3_0:=bf_ BK 0;have hcz3_1:=bc2_1 BK;have hfz3_1:=bf_ BK 1)|((with_reducible refine gate_builtin (b:=.append) (xs:=#[.tmp 17,.tmp 19]) rfl ?_);at_builtin;refine Kd.R_append k70 (w0:=w) w.heap.size rfl (.tmp 17) (.tmp 19) 42 70 (.agg #[(.string ⟨#[]⟩),(.string ⟨#[]⟩)]) 32 rfl Tryz.underlying42 info70 rfl (by decide) (by omega) u5 x5_1 (⟨(rd_T70 l0 x10_1).f0,(rd_T70 l0 x10_1).f1⟩:S70) [.string ((rd_T70 l0 x10_1).f0),.string ((rd_T70 l0 x10_1).f1)] (fun k_=>k_≠gb) (fun _=>False) rfl rfl ?aP (fun _ hk=>hk.elim) ?aF ?aO ?aB ?aS ?aL ?_;(case aP=>exact k70_mkM _ _ _ (⟨(rd_T70 l0 x10_1).f0,(rd_T70 l0 x10_1).f1⟩:S70));(case aB=>exact bg_);(case aF=>exact (fun k_ hk=>Kd.freshB (g:=gb) (o:=.cells #[.string ((rd_T70 l0 x10_1).f0),.string ((rd_T70 l0 x10_1).f1)] 70 (0,0)) (vk_ BK) k_ hk));(case aO=>exact (ro_ HO_5));(case aS=>exact (below_size bg_));(case aL=>have:=LM.out;omega);intro v20 w12 ho hb hg hat;rw [← Ny.out] at ho;have n1_:=am_ (hb);have n2_:=am_ (ho);clear HB;clear HO_5;have HB:=n1_;have HO_5:=n2_;clear n1_ n2_;clear ho hb hg hat))
       go_roundg k1
       case measure=>omega
       case rel=>exact ⟨y,(wrap64 (x10_1+1)),rs_,H',⟨by (with_reducible repeat (first|apply Kd.R_alloc|apply Kd.R_drewN|apply Kd.R_drew));exact Kd.R_mono HO_5.out (fun _ hk=>trivial)⟩,⟨bg_⟩⟩
      ·rw [if_neg c13] at H
       exact absurd H (by simp)
     | false =>
      have H':Aside0 (impl_Label_76.l0 P l0 k1 x5_1 (wrap64 (x10_1+1))=some r):=⟨by have H:=HC7.out;rw [if_neg (show ¬ (false=true) by decide)] at H;exact H⟩
      go_wp2_with (first|(with_reducible refine Calls.mono (hP'.out w9 (⟨(rd_T70 l0 x10_1).f0,(rd_T70 l0 x10_1).f1⟩:S70) false HB.out HP0.out) ?_;rintro e w10 ⟨rfl,hb⟩;have n0_:=am_ (Kd.R_below HO_5.out hb);have n2_:=am_ (below_step HB.out hb);clear HO_5 BK HB;have HO_5:=n0_;have HB:=n2_;clear n0_ n2_ hb))
      go_roundg k1
      case measure=>omega
      case rel=>exact ⟨x5_1,(wrap64 (x10_1+1)),rs_,H',⟨by (with_reducible repeat (first|apply Kd.R_alloc|apply Kd.R_drewN|apply Kd.R_drew));exact Kd.R_mono HO_5.out (fun _ hk=>trivial)⟩,⟨bl_⟩⟩
    ·rw [if_neg c5] at H
     exact absurd H (by simp)
   ·rw [if_neg c4] at H
    have c4b0:decide (x10_1<(l0.length:Int))=false:=decide_eq_false c4
    clear c4
    obtain rfl:=Option.some.inj H
    go_wp2
    go_ret
    exact ⟨_,rf_,HO_5.out,bl_⟩
def slices_Index_string_string.l0:Nat->List ByteArray->ByteArray->Int->Int->Option (Int)
 | 0,_,_,_,_=>none
 | k+1,x0,x1,x7,x8=>if x8<x7 then (if 0<=x8 then (if x8<(x0.length:Int) then (if x1.toList=(rdOf ByteArray.empty x0 x8).toList then (some x8) else (slices_Index_string_string.l0 k x0 x1 x7 (wrap64 (x8+1)))) else (none)) else (none)) else (some (-1))
def slices_Index_string_string.f (k:Nat)(l0:List ByteArray)(a1:ByteArray):Option (Int):=slices_Index_string_string.l0 k l0 a1 (l0.length:Int) 0
theorem slices_Index_string_string.mono_l:∀ k,(∀ y0 y1 y2 y3,LeO (slices_Index_string_string.l0 k y0 y1 y2 y3) (slices_Index_string_string.l0 (k+1) y0 y1 y2 y3))
 | 0=>fun _ _ _ _ r h=>by simp [slices_Index_string_string.l0] at h
 | k+1=>by
  have ih0:=slices_Index_string_string.mono_l k
  ·intro y0 y1 y2 y3
   unfold slices_Index_string_string.l0
   repeat' with_reducible first|apply ih0|apply LeO.refl|apply LeO.none|apply LeO.ite|refine LeO.bind ?_ (fun _ => ?_)
theorem slices_Index_string_string.mono:∀ a0 a1 k,LeO (slices_Index_string_string.f k a0 a1) (slices_Index_string_string.f (k+1) a0 a1):=by
 intro a0 a1 k
 have ih0:=slices_Index_string_string.mono_l k
 unfold slices_Index_string_string.f
 repeat' with_reducible first|apply ih0|apply LeO.refl|apply LeO.none|apply LeO.ite|refine LeO.bind ?_ (fun _ => ?_)
theorem slices_Index_string_string.calls (k:Nat)(A0:Option Addr)(c0:Nat)(l0:List ByteArray)(a1:ByteArray)(r:Int)(w:World)(hr0:Kd.C Kd.string w A0 l0.length l0)(hc0:l0.length<=c0)(h:slices_Index_string_string.f k l0 a1=some r) :
  Calls Tryz.prog 85 #[.slice A0 l0.length c0,.string a1] w fun e w'=>e = .returned (.int .i64 r)/\Drawn0 w w':=by
 have HR0:=am_ hr0;have HC0:=am_ hc0;clear hr0 hc0;have H:=h;clear h;unfold slices_Index_string_string.f at H;have H':=am_ H;clear H;go_enter Tryz.func85,Tryz.ntmps85;go_wp2
 go_loopg [8] k (fun kq v8 w'=>∃ (x8_1:Int),v8 = .int .i64 x8_1/\Aside0 (slices_Index_string_string.l0 kq l0 a1 (l0.length:Int) x8_1=some r)/\Aside0 (kq<=k)/\Drawn0 w w')
 case atStart=>exact ⟨(0),rs_,H',⟨Nat.le_refl _⟩,by repeat (first|exact Drawn0.refl _|apply Drawn0.step)⟩
 case round =>
  clear H';obtain ⟨x8_1,rfl,HA,HK1,⟨m1,rfl⟩⟩:=hrel
  cases gk with
  | zero=>exact absurd HA.out (by simp [slices_Index_string_string.l0])
  | succ k1 =>
   have H:=HA.out;clear HA;simp only [slices_Index_string_string.l0] at H
   by_cases c3:x8_1<(l0.length:Int)
   ·rw [if_pos c3] at H;have c3b0:=decide_eq_true c3;clear c3;replace H:=is_ H;obtain ⟨c4,H⟩:=H;have c4b0:=decide_eq_true c4;clear c4;replace H:=is_ H;obtain ⟨c5,H⟩:=H;have c5b0:=decide_eq_true c5;clear c5
    by_cases c6:a1.toList=(rdOf ByteArray.empty l0 x8_1).toList
    ·rw [if_pos c6] at H;have c6b0:=eb_ c6;have c6b1:=en_ c6;clear c6;obtain rfl:=si_ H;have p1001:0<=(x8_1:Int):=od_;have q1001:x8_1<(l0.length:Int):=od_;obtain ⟨ad1001,e1001,hx1001_0⟩:=Kd.at_string HR0.out x8_1 p1001 q1001
     cases e1001
     replace p1001:=eq_true p1001;replace q1001:=eq_true q1001;go_wp2;go_ret;exact ⟨by first|rfl|(simp;done)|(simp [*];done),by repeat (first|exact Drawn0.refl _|apply Drawn0.step)⟩
    ·rw [if_neg c6] at H;have c6b0:=nb_ c6;have c6b1:=nn_ c6;have H':=am_ H;clear H;have p1001:0<=(x8_1:Int):=od_;have q1001:x8_1<(l0.length:Int):=od_;obtain ⟨ad1001,e1001,hx1001_0⟩:=Kd.at_string HR0.out x8_1 p1001 q1001
     cases e1001
     replace p1001:=eq_true p1001;replace q1001:=eq_true q1001;go_wp2;go_roundg k1
     case measure=>have:=HK1.out;omega
     case rel=>exact ⟨(wrap64 (x8_1+1)),rs_,H',⟨by have:=HK1.out;omega⟩,by repeat (first|exact Drawn0.refl _|apply Drawn0.step)⟩
   ·rw [if_neg c3] at H;have c3b0:=decide_eq_false c3;clear c3;obtain rfl:=si_ H;go_wp2;go_ret;exact ⟨by first|rfl|(simp;done)|(simp [*];done),by repeat (first|exact Drawn0.refl _|apply Drawn0.step)⟩
def slices_Contains_string_string.f (k:Nat)(l0:List ByteArray)(a1:ByteArray):Option (Bool):=(slices_Index_string_string.f k l0 a1).bind fun t1001=>(some (decide (t1001>=0)))
theorem slices_Contains_string_string.mono:∀ a0 a1 k,LeO (slices_Contains_string_string.f k a0 a1) (slices_Contains_string_string.f (k+1) a0 a1):=by
 intro a0 a1 k
 unfold slices_Contains_string_string.f
 repeat' with_reducible first|apply slices_Index_string_string.mono|apply LeO.refl|apply LeO.none|apply LeO.ite|refine LeO.bind ?_ (fun _ => ?_)
theorem slices_Contains_string_string.calls (k:Nat)(A0:Option Addr)(c0:Nat)(l0:List ByteArray)(a1:ByteArray)(r:Bool)(w:World)(hr0:Kd.C Kd.string w A0 l0.length l0)(hc0:l0.length<=c0)(h:slices_Contains_string_string.f k l0 a1=some r) :
  Calls Tryz.prog 78 #[.slice A0 l0.length c0,.string a1] w fun e w'=>e = .returned (.bool r)/\Drawn0 w w':=by
 have HR0:=am_ hr0;have HC0:=am_ hc0;clear hr0 hc0;have H:=h;clear h;unfold slices_Contains_string_string.f at H;replace H:=bs_ H;obtain ⟨t1001,A3,H⟩:=H;obtain rfl:=si_ H;go_enter Tryz.func78,Tryz.ntmps78;go_wp2_with (first|((with_reducible refine gate_callee (f:=85) rfl ?_);refine gl_ 7 Tryz.func85 #[.slice A0 l0.length c0,.string a1] ?_;(with_reducible refine (slices_Index_string_string.calls k _ _ l0 a1 t1001 _ ?side1 ?side2 A3.out).mono ?_);(case side1=>repeat (first|exact HR0.out|(with_reducible refine Kd.C_alloc ?_ _)|(with_reducible refine Kd.C_drewN ?_ _)|(with_reducible refine Kd.C_drew ?_)));(case side2=>exact HC0.out);rintro e w' ⟨rfl,⟨nd,rfl⟩⟩;refine ⟨_,rfl,?_⟩));go_ret;exact ⟨by first|rfl|(simp;done)|(simp [*];done),by repeat (first|exact Drawn0.refl _|apply Drawn0.step)⟩
theorem impl_drop_1.calls (k:Nat)(x:S70)(A1:Option Addr)(c1:Nat)(l1:List ByteArray)(gn:Nat)(b:Bool)(w:World)(hcell:w.cell? ⟨gn,0,none⟩=some (.slice A1 l1.length c1))(hr1:Kd.C Kd.string w A1 l1.length l1)(hc1:l1.length<=c1)(h:slices_Contains_string_string.f k l1 x.f0=some b) :
  Calls Tryz.prog 77 #[.agg #[.string (x.f0),.string (x.f1)],.pointer (some ⟨gn,0,none⟩)] w fun e w'=>e = .returned (.bool (!b))/\Below w.heap.size w w':=by
 have hu:=Tryz.underlying70
 have HC1:=am_ hr1
 clear hr1
 have HB:=am_ (Below.refl w.heap.size w)
 have HX:=am_ hcell
 clear hcell
 go_enter Tryz.func77,Tryz.ntmps77
 go_wp2_with (first|((with_reducible refine gate_dst (N:=2) rfl ?_);refine bx_ 2 #[.string (x.f0),.string (x.f1)] 70 ?_;intro gb hg w8 hbox hb;have n1_:=am_ (below_step bl_ hb);have BK:=am_ hbox;clear HB;have HB:=n1_;clear n1_ hb hbox hg;have hcx:=kp_ HB HX.out;have hcz1_0:=bc2_0 BK;have hcz1_1:=bc2_1 BK;have hfz1_0:=bf_ BK 0;have hfz1_1:=bf_ BK 1)|(go_at_call 78;refine (slices_Contains_string_string.calls k A1 c1 l1 x.f0 b _ (Kd.C_below HC1.out bl_) hc1 h).mono ?_;rintro e w' ⟨rfl,⟨nd,rfl⟩⟩))
 go_ret
 exact ⟨rf_,bl_⟩
def impl_drop.f (k:Nat)(l0:List (S70))(l1:List ByteArray):Option (List (S70)):=impl_Label_76.f k (fun x=>(slices_Contains_string_string.f k l1 x.f0).bind fun b=>some (!b)) l0
theorem impl_drop.mono:∀ a0 a1 k,LeO (impl_drop.f k a0 a1) (impl_drop.f (k+1) a0 a1):=by
 intro a0 a1 k
 exact impl_Label_76.mono _ _ (fun x=>LeO.bind (slices_Contains_string_string.mono _ _ _) (fun _=>LeO.refl _)) a0 k
theorem impl_drop.calls (k:Nat)(A0:Option Addr)(c0:Nat)(l0:List (S70))(A1:Option Addr)(c1:Nat)(l1:List ByteArray)(r:List (S70))(w:World)(hr0:Kd.C k70 w A0 l0.length l0)(hc0:l0.length<=c0)(hr1:Kd.C Kd.string w A1 l1.length l1)(hc1:l1.length<=c1)(h:impl_drop.f k l0 l1=some r) :
  Calls Tryz.prog 66 #[.slice A0 l0.length c0,.slice A1 l1.length c1] w fun e w'=>∃ v0_:Value,e = .returned (v0_)/\Kd.R k70 70 w' w.heap.size (fun _=>True) v0_ r/\Below w.heap.size w w':=by
 have HR0:=am_ hr0
 have HR1:=am_ hr1
 clear hr0 hr1
 have HB:=am_ (Below.refl w.heap.size w)
 go_enter Tryz.func66,Tryz.ntmps66
 go_wp2_with (first|((with_reducible refine gate_dst (N:=3) rfl ?_);refine bx_ 3 #[.slice A1 l1.length c1] 76 ?_;intro gb hg w8 hbox hb;have n1_:=am_ (below_step bl_ hb);have BK:=am_ hbox;clear HB;have HB:=n1_;clear n1_ hb hbox hg)|(go_at_call 76;refine (impl_Label_76.calls k _ 77 #[.pointer (some ⟨gb,0,none⟩)] (fun args w=>enters_ Tryz.func77 (by kernel_rfl) rfl args w) A0 c0 l0 r w8 (Kd.C_below HR0.out HB.out) hc0 ?hP h).mono ?_;(case hP=>intro W x b hW hx;obtain ⟨b0,hx2,hb0⟩:=Option.bind_eq_some_iff.mp hx;replace hx:=hx2;obtain rfl:=Option.some.inj hb0;exact impl_drop_1.calls k x A1 c1 l1 gb b0 W (kp_ ⟨hW⟩ (bc1_0 BK)) (Kd.C_below (Kd.C_below HR1.out HB.out) hW) hc1 hx);rintro e w9 ⟨v0,rfl,ho,hb⟩;have n0_:=am_ (Kd.R_lower ho (below_size HB.out));have n1_:=am_ (below_step HB.out hb);clear HB;have HO:=n0_;have HB:=n1_;clear n0_ n1_ hb ho))
 go_ret
 exact ⟨_,rf_,HO.out,bl_⟩
def impl_without.f (k:Nat)(l0:List (S70))(a1:ByteArray):Option ((List (S70))):=(impl_drop.f k l0 (([a1]:List ByteArray))).bind fun t1004=>(some t1004)
theorem impl_without.mono:∀ a0 a1 k,LeO (impl_without.f k a0 a1) (impl_without.f (k+1) a0 a1):=by
 intro a0 a1 k
 unfold impl_without.f
 repeat' with_reducible first|apply impl_drop.mono|apply LeO.refl|apply LeO.none|apply LeO.ite|refine LeO.bind ?_ (fun _ => ?_)
theorem impl_without.calls (k:Nat)(A0:Option Addr)(c0:Nat)(l0:List (S70))(a1:ByteArray)(r:List (S70))(w:World)(hr0:Kd.C k70 w A0 l0.length l0)(hc0:l0.length<=c0)(h:impl_without.f k l0 a1=some r) :
  Calls Tryz.prog 49 #[.slice A0 l0.length c0,.string a1] w fun e w'=>∃ v0_:Value,e = .returned (v0_)/\Kd.R k70 70 w' w.heap.size (fun _=>True) v0_ r/\Below w.heap.size w w':=by
 have HR0:=am_ hr0;have HC0:=am_ hc0;clear hr0 hc0;have HB:=am_ (Below.refl w.heap.size w);have H:=h;clear h;unfold impl_without.f at H;obtain ⟨y1001,hy1001⟩:∃ y_:List ByteArray,y_=(([a1]:List ByteArray)):=⟨_,rfl⟩;replace H:((impl_drop.f k l0 y1001).bind fun t1004=>(some t1004))=some r:=by first|(rw [hy1001];with_reducible exact H)|(have H2_:=(Option.bind_some _ _).symm.trans H;rw [hy1001];with_reducible exact H2_)|(have H2_:=(Option.bind_some _ _).symm.trans H;with_reducible exact H2_)|with_reducible exact H|(rw [hy1001];exact H)|exact H
 have Ny1001:=am_ hy1001;clear hy1001;replace H:=bs_ H;obtain ⟨t1004,A3,H⟩:=H;obtain rfl:=si_ H;go_enter Tryz.func49,Tryz.ntmps49;go_wp2_with (first|((with_reducible refine gate_dst (N:=7) rfl ?_);refine Kd.R_lit Kd.string _ 9 ?hg (N:=7) ?hd (xs:=([a1]:List ByteArray)) (inner:=[.string a1]) (ok:=fun _=>True) (okp:=fun _=>True) ?hr ?hp (fun _ hk=>hk) trivial (Below.refl _ _) (Nat.le_refl _) (by simp) ?_;(case hd=>rfl);(case hg=>rfl);(case hr=>first|(go_simp;done)|(go_simp;rfl));(case hp=>exact (Reps.one (show Kd.M Kd.string _ _ _ a1 [.string a1] from rfl) (Reps.none _ _)));intro v1002 w4 ho5 hb hg_ hnew_;clear hg_ hnew_;(first|rw [← Ny1001.out] at ho5|(simp only [Int.reduceToNat] at ho5;rw [← Ny1001.out] at ho5));have HO1003:=am_ (Kd.R_lower ho5 (below_size bl_));replace HB:=am_ (below_step bl_ hb);clear hb ho5;obtain ⟨Ao6,co6,eo6⟩:=Kd.R_slice HO1003.out;subst eo6)|((with_reducible refine gate_callee (f:=66) rfl ?_);refine gl_ 8 Tryz.func66 #[.slice A0 l0.length c0,.slice Ao6 y1001.length co6] ?_;(with_reducible refine (impl_drop.calls k _ _ l0 _ _ y1001 t1004 _ ?side1 ?side2 ?side3 ?side4 A3.out).mono ?_);(case side1=>exact cc_ (Kd.C_below HR0.out HB.out));(case side2=>exact HC0.out);(case side3=>exact cc_ (Kd.R_reads' HO1003.out).2.2);(case side4=>exact (Kd.R_reads' HO1003.out).2.1);rintro e w7 ⟨v1005,rfl,ho0,hb⟩;refine ⟨_,rfl,?_⟩;have HO1006:=am_ (Kd.R_lower ho0 (below_size bl_));replace HO1003:=am_ (Kd.R_below (ro_ HO1003) hb);replace HB:=am_ (below_step bl_ hb);(try clear hb);(try clear ho0)));go_ret;exact ⟨_,rf_,by (with_reducible repeat (first|apply Kd.R_alloc|apply Kd.R_drewN|apply Kd.R_drew));exact HO1006.out,bl_⟩
def impl_Label_67.l0:Nat->List (S70)->List (S70)->Int->Int->Option (Bool)
 | 0,_,_,_,_=>none
 | k+1,x0,x1,x12,x13=>if x13<x12 then (if 0<=x13 then (if x13<(x0.length:Int) then (if x13<(x1.length:Int) then (if (!((((rd_T70 x0 x13).f0).toList)==(((rd_T70 x1 x13).f0).toList))||(!((((rd_T70 x0 x13).f1).toList)==(((rd_T70 x1 x13).f1).toList))))=true then (some false) else (impl_Label_67.l0 k x0 x1 x12 (wrap64 (x13+1)))) else (none)) else (none)) else (none)) else (some true)
def impl_Label_67.f (k:Nat)(l0:List (S70))(l1:List (S70)):Option (Bool):=if (l0.length:Int)=(l1.length:Int) then (impl_Label_67.l0 k l0 l1 (l0.length:Int) 0) else (some false)
theorem impl_Label_67.mono_l:∀ k,(∀ y0 y1 y2 y3,LeO (impl_Label_67.l0 k y0 y1 y2 y3) (impl_Label_67.l0 (k+1) y0 y1 y2 y3))
 | 0=>fun _ _ _ _ r h=>by simp [impl_Label_67.l0] at h
 | k+1=>by
  have ih0:=impl_Label_67.mono_l k
  ·intro y0 y1 y2 y3
   unfold impl_Label_67.l0
   repeat' with_reducible first|apply ih0|apply LeO.refl|apply LeO.none|apply LeO.ite|refine LeO.bind ?_ (fun _ => ?_)
theorem impl_Label_67.mono:∀ a0 a1 k,LeO (impl_Label_67.f k a0 a1) (impl_Label_67.f (k+1) a0 a1):=by
 intro a0 a1 k
 have ih0:=impl_Label_67.mono_l k
 unfold impl_Label_67.f
 repeat' with_reducible first|apply ih0|apply LeO.refl|apply LeO.none|apply LeO.ite|refine LeO.bind ?_ (fun _ => ?_)
theorem impl_Label_67.calls (k:Nat)(A0:Option Addr)(c0:Nat)(l0:List (S70))(A1:Option Addr)(c1:Nat)(l1:List (S70))(r:Bool)(w:World)(hr0:Kd.C k70 w A0 l0.length l0)(hc0:l0.length<=c0)(hr1:Kd.C k70 w A1 l1.length l1)(hc1:l1.length<=c1)(h:impl_Label_67.f k l0 l1=some r) :
  Calls Tryz.prog 67 #[.slice A0 l0.length c0,.slice A1 l1.length c1] w fun e w'=>e = .returned (.bool r)/\Drawn0 w w':=by
 have hu70:=Tryz.underlying70;have HR0:=am_ hr0;have HC0:=am_ hc0;clear hr0 hc0;have HR1:=am_ hr1;have HC1:=am_ hc1;clear hr1 hc1;have H:=h;clear h;unfold impl_Label_67.f at H
 by_cases c3:(l0.length:Int)=(l1.length:Int)
 ·rw [if_pos c3] at H;have c3b0:=eb_ c3;have c3b1:=en_ c3;have c3b2:(l0.length==l1.length)=true:=by first|simpa using c3|(simp at c3 ⊢;omega)
  clear c3;have H':=am_ H;clear H;go_enter Tryz.func67,Tryz.ntmps67;go_wp2;(repeat (go_quiet (fail);try go_wp2))
  go_loopg [13] k (fun kq v13 w'=>∃ (x13_1:Int),v13 = .int .i64 x13_1/\Aside0 (impl_Label_67.l0 kq l0 l1 (l0.length:Int) x13_1=some r)/\Aside0 (kq<=k)/\Drawn0 w w')
  case atStart=>exact ⟨(0),rs_,H',⟨Nat.le_refl _⟩,by repeat (first|exact Drawn0.refl _|apply Drawn0.step)⟩
  case round =>
   clear H';(try clear c3);(try clear c3b0);(try clear c3b1);(try clear c3b2);obtain ⟨x13_1,rfl,HA,HK1,⟨m1,rfl⟩⟩:=hrel
   cases gk with
   | zero=>exact absurd HA.out (by simp [impl_Label_67.l0])
   | succ k1 =>
    have H:=HA.out;clear HA;simp only [impl_Label_67.l0] at H
    by_cases c4:x13_1<(l0.length:Int)
    ·rw [if_pos c4] at H;have c4b0:=decide_eq_true c4;clear c4;replace H:=is_ H;obtain ⟨c5,H⟩:=H;have c5b0:=decide_eq_true c5;clear c5;replace H:=is_ H;obtain ⟨c6,H⟩:=H;have c6b0:=decide_eq_true c6;clear c6;replace H:=is_ H;obtain ⟨c7,H⟩:=H;have c7b0:=decide_eq_true c7;clear c7
     by_cases c8:(!((((rd_T70 l0 x13_1).f0).toList)==(((rd_T70 l1 x13_1).f0).toList))||(!((((rd_T70 l0 x13_1).f1).toList)==(((rd_T70 l1 x13_1).f1).toList))))=true
     ·rw [if_pos c8] at H;have c8b0:(!((((rd_T70 l0 x13_1).f0).toList)==(((rd_T70 l1 x13_1).f0).toList))||(!((((rd_T70 l0 x13_1).f1).toList)==(((rd_T70 l1 x13_1).f1).toList))))=true:=c8;clear c8;obtain rfl:=si_ H;have p1001:0<=(x13_1:Int):=od_;have q1001:x13_1<(l0.length:Int):=od_;obtain ⟨ad1001,e1001,hx1001_0,hx1001_1⟩:=at_T70 HR0.out x13_1 p1001 q1001
      cases e1001
      replace p1001:=eq_true p1001;replace q1001:=eq_true q1001;have p1002:0<=(x13_1:Int):=od_;have q1002:x13_1<(l1.length:Int):=od_;obtain ⟨ad1002,e1002,hx1002_0,hx1002_1⟩:=at_T70 HR1.out x13_1 p1002 q1002
      cases e1002
      replace p1002:=eq_true p1002;replace q1002:=eq_true q1002;go_wp2;(repeat (go_quiet (fail);try go_wp2));go_ret;exact ⟨by first|rfl|(simp;done)|(simp [*];done),by repeat (first|exact Drawn0.refl _|apply Drawn0.step)⟩
     ·rw [if_neg c8] at H;have c8b0:(!((((rd_T70 l0 x13_1).f0).toList)==(((rd_T70 l1 x13_1).f0).toList))||(!((((rd_T70 l0 x13_1).f1).toList)==(((rd_T70 l1 x13_1).f1).toList))))=false:=by simpa using c8
      clear c8;have H':=am_ H;clear H;have p1001:0<=(x13_1:Int):=od_;have q1001:x13_1<(l0.length:Int):=od_;obtain ⟨ad1001,e1001,hx1001_0,hx1001_1⟩:=at_T70 HR0.out x13_1 p1001 q1001
      cases e1001
      replace p1001:=eq_true p1001;replace q1001:=eq_true q1001;have p1002:0<=(x13_1:Int):=od_;have q1002:x13_1<(l1.length:Int):=od_;obtain ⟨ad1002,e1002,hx1002_0,hx1002_1⟩:=at_T70 HR1.out x13_1 p1002 q1002
      cases e1002
      replace p1002:=eq_true p1002;replace q1002:=eq_true q1002;go_wp2;(repeat (go_quiet (fail);try go_wp2));go_roundg k1
      case measure=>have:=HK1.out;omega
      case rel=>exact ⟨(wrap64 (x13_1+1)),rs_,H',⟨by have:=HK1.out;omega⟩,by repeat (first|exact Drawn0.refl _|apply Drawn0.step)⟩
    ·rw [if_neg c4] at H;have c4b0:=decide_eq_false c4;clear c4;obtain rfl:=si_ H;go_wp2;(repeat (go_quiet (fail);try go_wp2));go_ret;exact ⟨by first|rfl|(simp;done)|(simp [*];done),by repeat (first|exact Drawn0.refl _|apply Drawn0.step)⟩
 ·rw [if_neg c3] at H;have c3b0:=nb_ c3;have c3b1:=nn_ c3;have c3b2:(l0.length==l1.length)=false:=by first|simpa using c3|(simp at c3 ⊢;omega)
  obtain rfl:=si_ H;go_enter Tryz.func67,Tryz.ntmps67;go_wp2;(repeat (go_quiet (fail);try go_wp2));go_ret;exact ⟨by first|rfl|(simp;done)|(simp [*];done),by repeat (first|exact Drawn0.refl _|apply Drawn0.step)⟩
def impl_sameLabels.f (k:Nat)(l0:List (S70))(l1:List (S70)):Option (Bool):=(impl_Label_67.f k l0 l1).bind fun t1001=>(some t1001)
theorem impl_sameLabels.mono:∀ a0 a1 k,LeO (impl_sameLabels.f k a0 a1) (impl_sameLabels.f (k+1) a0 a1):=by
 intro a0 a1 k
 unfold impl_sameLabels.f
 repeat' with_reducible first|apply impl_Label_67.mono|apply LeO.refl|apply LeO.none|apply LeO.ite|refine LeO.bind ?_ (fun _ => ?_)
theorem impl_sameLabels.calls (k:Nat)(A0:Option Addr)(c0:Nat)(l0:List (S70))(A1:Option Addr)(c1:Nat)(l1:List (S70))(r:Bool)(w:World)(hr0:Kd.C k70 w A0 l0.length l0)(hc0:l0.length<=c0)(hr1:Kd.C k70 w A1 l1.length l1)(hc1:l1.length<=c1)(h:impl_sameLabels.f k l0 l1=some r) :
  Calls Tryz.prog 50 #[.slice A0 l0.length c0,.slice A1 l1.length c1] w fun e w'=>e = .returned (.bool r)/\Drawn0 w w':=by
 have HR0:=am_ hr0;have HC0:=am_ hc0;clear hr0 hc0;have HR1:=am_ hr1;have HC1:=am_ hc1;clear hr1 hc1;have H:=h;clear h;unfold impl_sameLabels.f at H;replace H:=bs_ H;obtain ⟨t1001,A3,H⟩:=H;obtain rfl:=si_ H;go_enter Tryz.func50,Tryz.ntmps50;go_wp2_with (first|((with_reducible refine gate_callee (f:=67) rfl ?_);refine gl_ 7 Tryz.func67 #[.slice A0 l0.length c0,.slice A1 l1.length c1] ?_;(with_reducible refine (impl_Label_67.calls k _ _ l0 _ _ l1 t1001 _ ?side1 ?side2 ?side3 ?side4 A3.out).mono ?_);(case side1=>repeat (first|exact HR0.out|(with_reducible refine Kd.C_alloc ?_ _)|(with_reducible refine Kd.C_drewN ?_ _)|(with_reducible refine Kd.C_drew ?_)));(case side2=>exact HC0.out);(case side3=>repeat (first|exact HR1.out|(with_reducible refine Kd.C_alloc ?_ _)|(with_reducible refine Kd.C_drewN ?_ _)|(with_reducible refine Kd.C_drew ?_)));(case side4=>exact HC1.out);rintro e w' ⟨rfl,⟨nd,rfl⟩⟩;refine ⟨_,rfl,?_⟩));go_ret;exact ⟨by first|rfl|(simp;done)|(simp [*];done),by repeat (first|exact Drawn0.refl _|apply Drawn0.step)⟩
def strconv_Itoa_69.f (a0:Int):Option (ByteArray):=if -9223372036854775808<=a0/\a0<=9223372036854775807 then some ⟨(Lib.itoa a0).toArray⟩ else none
theorem strconv_Itoa_69.calls (a0:Int)(r:ByteArray)(w:World)(h:strconv_Itoa_69.f a0=some r)(hT3:Tg3 w:=by exact Tg3.below hT3 bg_) :
  Calls Tryz.prog 69 #[.int .i64 a0] w fun e w'=>e = .returned (.string r)/\Below w.heap.size w w':=by
 unfold strconv_Itoa_69.f at h
 split at h
 ·rename_i hl
  obtain rfl:=Option.some.inj h
  exact (Tryz.strconv_Itoa a0 hl.1 hl.2 w hT3.c).mono (fun e w' hp=>⟨hp.1,by obtain ⟨k,os,rfl⟩:=hp.2;exact Lib.below_grow _ w (Nat.le_refl _) k os⟩)
 ·cases h
def impl_readInt.f (a0:ByteArray):Option (Int × Bool) :=
 if a0.size<=281474976710656 then (match Lib.atoiAll a0.data.toList with
  | .ok v=>if -9223372036854775808<=v/\v<=9223372036854775807 then some (v,(Lib.itoa v==a0.toList)) else none
  | .«syntax»=>some (0,false)
  | .range=>some (Lib.atoiSat a0.data.toList,false)) else none
theorem impl_readInt.calls (a0:ByteArray)(r1:Int)(r2:Bool)(w:World)(h:impl_readInt.f a0=some (r1,r2))(hT1:Tg1 w:=by exact Tg1.below hT1 bg_)(hT2:Tg2 w:=by exact Tg2.below hT2 bg_)(hT3:Tg3 w:=by exact Tg3.below hT3 bg_) :
  Calls Tryz.prog 51 #[.string a0] w fun e w'=>e = .returned (.tuple #[.int .i64 r1,.bool r2])/\Below w.heap.size w w':=by
 unfold impl_readInt.f at h
 split at h
 ·rename_i hz
  have bb:∀ {w1:World} {T_:TypeId},(w1=w∨∃ t,w1=Lib.bytesWorld w T_ t)->Below w.heap.size w w1:=fun hw=>by
   rcases hw with rfl|⟨t,rfl⟩
   ·exact Below.refl _ _
   ·exact Lib.bytesWorld_below _ _ _
  cases q:Lib.atoiAll a0.data.toList with
  | ok v =>
   rw [q] at h
   dsimp only at h
   split at h
   ·rename_i hv
    have hq:=Option.some.inj h
    obtain ⟨rfl,rfl⟩:=Prod.mk.inj hq
    clear h hq
    go_enter Tryz.func51,Tryz.ntmps51
    go_wp2_with (first
     | (go_at_call 68;(with_reducible refine (Tryz.strconv_Atoi_ok a0 (by omega) v q w).mono ?_);rintro e w1 ⟨rfl,hw1⟩;have HB:=am_ (bb hw1);clear hw1)
     | (go_at_call 69;(with_reducible refine (Tryz.strconv_Itoa v hv.1 hv.2 _ (Tg3.below hT3 HB.out).c).mono ?_);rintro e w2 ⟨rfl,hp⟩;have HB2:=am_ (show Below w.heap.size w w2 from by (obtain ⟨k,os,rfl⟩:=hp;exact Below.trans HB.out (Lib.below_grow _ _ HB.out.size k os)));clear HB hp;have HB:=HB2;clear HB2))
    go_ret2
    exact ⟨rfl,HB.out⟩
   ·cases h
  | «syntax» =>
   rw [q] at h
   have hq:=Option.some.inj h
   obtain ⟨rfl,rfl⟩:=Prod.mk.inj hq
   clear h hq
   obtain ⟨te,pe,hc⟩:=hT1.c
   go_enter Tryz.func51,Tryz.ntmps51
   go_wp2_with (first
    | (go_at_call 68;(with_reducible refine (Tryz.strconv_Atoi_syntax a0 hz q _ w hc (Or.inr ⟨_,_,rfl⟩)).mono ?_);rintro e w1 ⟨N,rfl,h1,h2,h3⟩;have HB:=am_ h3;clear h3))
   go_ret2
   exact ⟨rfl,HB.out⟩
  | range =>
   rw [q] at h
   have hq:=Option.some.inj h
   obtain ⟨rfl,rfl⟩:=Prod.mk.inj hq
   clear h hq
   obtain ⟨te,pe,hc⟩:=hT2.c
   go_enter Tryz.func51,Tryz.ntmps51
   go_wp2_with (first
    | (go_at_call 68;(with_reducible refine (Tryz.strconv_Atoi_range a0 hz q _ w hc (Or.inr ⟨_,_,rfl⟩)).mono ?_);rintro e w1 ⟨N,rfl,h1,h2,h3⟩;have HB:=am_ h3;clear h3))
   go_ret2
   exact ⟨rfl,HB.out⟩
 ·cases h
end Go.Proofs.YtfdbbpnmnogddaaGreatDoor.Pr
