/- Functions of the given program as plain Lean functions, and that the machine's calls come to them; written by a program of this session; no condition but those that each theorem states. -/
import Derived.Test.YtfdbbpnmnogddaaGreatDoorPrx0
import Derived.Test.YtfdbbpnmnogddaaGreatDoorPrxg8bf11s1
set_option maxHeartbeats 8000000
set_option maxRecDepth 100000
namespace Go.Proofs.YtfdbbpnmnogddaaGreatDoor.Pr
open Go.RowKit Go.Proofs.YtfdbbpnmnogddaaGreatDoorW.PrintWords Go.Proofs.YtfdbbpnmnogddaaGreatDoorW.PrintLast Go.Proofs.YtfdbbpnmnogddaaGreatDoorW.PrintMore
attribute [local go_sem] max2_int min2_int max_two min_two max_three min_three max_four min_four
set_option linter.unusedVariables false
set_option linter.unusedSimpArgs false
mutual
def spec_l2ReadNum.j0:Nat->ByteArray->Bool->Option (Int × Bool)
 | 0,_,_=>none
 | k+1,x0,x13=>if x13=true then (some (0,false)) else (spec_l2ReadNum.l0 k x0 0 0)
def spec_l2ReadNum.l0:Nat->ByteArray->Int->Int->Option (Int × Bool)
 | 0,_,_,_=>none
 | k+1,x0,x4,x5=>if x5<(x0.size:Int) then (if x5=0 then (if 0<(x0.size:Int) then (spec_l2ReadNum.j2 k x0 x4 x5 ((bt x0 0)==45)) else (none)) else (spec_l2ReadNum.j2 k x0 x4 x5 false)) else (if 0<(x0.size:Int) then (if (bt x0 0)=45 then ((spec_l2Num.f k (wrap64 (-x4))).bind fun t1001=>(some (wrap64 (-x4),(t1001.toList==x0.toList)))) else ((spec_l2Num.f k x4).bind fun t1002=>(some (x4,(t1002.toList==x0.toList))))) else (none))
def spec_l2ReadNum.j2:Nat->ByteArray->Int->Int->Bool->Option (Int × Bool)
 | 0,_,_,_,_=>none
 | k+1,x0,x4,x5,x26=>if x26=true then (spec_l2ReadNum.l0 k x0 x4 (wrap64 (x5+1))) else (if 0<=x5 then (if x5<(x0.size:Int) then ((spec_l2Digit.f (bt x0 x5)).bind fun t1003=>(if t1003=true then (spec_l2ReadNum.l0 k x0 (wrap64 ((wrap64 (x4*10))+(((bt x0 x5)-48) % 256))) (wrap64 (x5+1))) else (some (0,false)))) else (none)) else (none))
end
def spec_l2ReadNum.f (k:Nat)(a0:ByteArray):Option (Int × Bool):=if (a0.size:Int)<1 then (spec_l2ReadNum.j0 k a0 true) else (spec_l2ReadNum.j0 k a0 (decide ((a0.size:Int)>20)))
theorem spec_l2ReadNum.mono_l:∀ k,(∀ y0 y1,LeO (spec_l2ReadNum.j0 k y0 y1) (spec_l2ReadNum.j0 (k+1) y0 y1))/\(∀ y0 y1 y2,LeO (spec_l2ReadNum.l0 k y0 y1 y2) (spec_l2ReadNum.l0 (k+1) y0 y1 y2))/\(∀ y0 y1 y2 y3,LeO (spec_l2ReadNum.j2 k y0 y1 y2 y3) (spec_l2ReadNum.j2 (k+1) y0 y1 y2 y3))
 | 0=>⟨fun _ _ r h=>by simp [spec_l2ReadNum.j0] at h,fun _ _ _ r h=>by simp [spec_l2ReadNum.l0] at h,fun _ _ _ _ r h=>by simp [spec_l2ReadNum.j2] at h⟩
 | k+1=>by
  obtain ⟨ih0,ih1,ih2⟩:=spec_l2ReadNum.mono_l k
  refine ⟨?_,?_,?_⟩
  ·intro y0 y1
   unfold spec_l2ReadNum.j0
   repeat' with_reducible first|apply ih0|apply ih1|apply ih2|apply spec_l2Num.mono|apply LeO.refl|apply LeO.none|apply LeO.ite|refine LeO.bind ?_ (fun _ => ?_)
  ·intro y0 y1 y2
   unfold spec_l2ReadNum.l0
   repeat' with_reducible first|apply ih0|apply ih1|apply ih2|apply spec_l2Num.mono|apply LeO.refl|apply LeO.none|apply LeO.ite|refine LeO.bind ?_ (fun _ => ?_)
  ·intro y0 y1 y2 y3
   unfold spec_l2ReadNum.j2
   repeat' with_reducible first|apply ih0|apply ih1|apply ih2|apply spec_l2Num.mono|apply LeO.refl|apply LeO.none|apply LeO.ite|refine LeO.bind ?_ (fun _ => ?_)
theorem spec_l2ReadNum.mono:∀ a0 k,LeO (spec_l2ReadNum.f k a0) (spec_l2ReadNum.f (k+1) a0):=by
 intro a0 k
 obtain ⟨ih0,ih1,ih2⟩:=spec_l2ReadNum.mono_l k
 unfold spec_l2ReadNum.f
 repeat' with_reducible first|apply ih0|apply ih1|apply ih2|apply spec_l2Num.mono|apply LeO.refl|apply LeO.none|apply LeO.ite|refine LeO.bind ?_ (fun _ => ?_)
theorem spec_l2ReadNum.calls (k:Nat)(a0:ByteArray)(r1:Int)(r2:Bool)(w:World)(h:spec_l2ReadNum.f k a0=some (r1,r2)) :
  Calls Tryz.prog 39 #[.string a0] w fun e w'=>e = .returned (.tuple #[.int .i64 r1,.bool r2])/\Below w.heap.size w w':=by
 have HB:=am_ (Below.refl w.heap.size w);have H:(if (a0.size:Int)<1 then (spec_l2ReadNum.j0 k a0 true) else (spec_l2ReadNum.j0 k a0 (decide ((a0.size:Int)>20))))=some (r1,r2):=h;clear h;have HC2:=am_ H;clear H;go_enter Tryz.func39,Tryz.ntmps39;go_upto_region 1 with (fail)
 go_cut [13] (fun v13 wc=>∃ (kq:Nat) (x13_1:Bool),v13 = .bool x13_1/\Aside0 (spec_l2ReadNum.j0 kq a0 x13_1=some (r1,r2))/\Aside0 (kq<=k)/\Aside0 (Below w.heap.size w wc))
 case first =>
  have H:=HC2.out;clear HC2
  by_cases c3:(a0.size:Int)<1
  ·rw [if_pos c3] at H;have c3b0:=decide_eq_true c3;have c3b1:decide (a0.size<1)=true:=decide_eq_true (by omega);clear c3;(first|rw [c3b0]|(simp only [i64_w,i32_w];rw [c3b0])|skip);have H':=am_ H;clear H;go_wp2;go_meet
   case rel=>exact ⟨_,(true),rs_,H',⟨by first|omega|exact Nat.le_refl _⟩,⟨bl_⟩⟩
  ·rw [if_neg c3] at H;have c3b0:=decide_eq_false c3;have c3b1:decide (a0.size<1)=false:=decide_eq_false (by omega);clear c3;(first|rw [c3b0]|(simp only [i64_w,i32_w];rw [c3b0])|skip);have H':=am_ H;clear H;go_wp2;go_meet
   case rel=>exact ⟨_,(decide ((a0.size:Int)>20)),rs_,H',⟨by first|omega|exact Nat.le_refl _⟩,⟨bl_⟩⟩
 case rest =>
  clear HC2;obtain ⟨kq,x13_1,rfl,HA,HJ1,HB⟩:=hcut
  cases kq with
  | zero=>exact absurd HA.out (by simp [spec_l2ReadNum.j0])
  | succ kj1 =>
   have H:=HA.out;clear HA;simp only [spec_l2ReadNum.j0] at H
   by_cases c4:x13_1=true
   ·subst c4;replace H:=it_ H;simp only [Option.some.injEq,Prod.mk.injEq] at H;obtain ⟨rfl,rfl⟩:=H;go_wp2;go_ret2;exact ⟨rf_,bl_⟩
   ·replace c4:=Bool.eq_false_iff.mpr c4;subst c4;replace H:=if_ H;have H':=am_ H;clear H;go_wp2
    go_loopg [4,5] kj1 (fun kq v4 v5 w'=>∃ (x4_2:Int) (x5_2:Int),v4 = .int .i64 x4_2/\v5 = .int .i64 x5_2/\Aside0 (spec_l2ReadNum.l0 kq a0 x4_2 x5_2=some (r1,r2))/\Aside0 (kq<=kj1)/\Aside0 (Below w.heap.size w w'))
    case atStart=>exact ⟨(0),(0),rs_,rs_,H',⟨Nat.le_refl _⟩,⟨bl_⟩⟩
    case round =>
     clear H';(try clear c4);obtain ⟨x4_2,x5_2,rfl,rfl,HA,HK2,HB⟩:=hrel
     cases gk with
     | zero=>exact absurd HA.out (by simp [spec_l2ReadNum.l0])
     | succ k2 =>
      have H:=HA.out;clear HA;simp only [spec_l2ReadNum.l0] at H
      by_cases c5:x5_2<(a0.size:Int)
      ·rw [if_pos c5] at H;have c5b0:=decide_eq_true c5;clear c5;have HC6:=am_ H;clear H;go_upto_region 7 with (fail)
       go_cut [26] (fun v26 wc=>∃ (kq:Nat) (x26_5:Bool),v26 = .bool x26_5/\Aside0 (spec_l2ReadNum.j2 kq a0 x4_2 x5_2 x26_5=some (r1,r2))/\Aside0 (kq<=k2)/\Aside0 (Below w.heap.size w wc))
       case first =>
        have H:=HC6.out;clear HC6
        by_cases c7:x5_2=0
        ·rw [if_pos c7] at H;have c7b0:=eb_ c7;have c7b1:=en_ c7;clear c7;(first|rw [c7b0]|(simp only [i64_w,i32_w];rw [c7b0])|skip);replace H:=is_ H;obtain ⟨c8,H⟩:=H;have c8b0:=decide_eq_true c8;have c8b1:decide (0<a0.size)=true:=decide_eq_true (by omega);clear c8;have H':=am_ H;clear H;have p9:0<=(0:Int):=(by omega);have q9:0<a0.size:=(by have:(0:Int)<(a0.size:Int):=od_;omega);have hx9:∀ h:0<a0.size,((a0[0]'h).toNat:Int)=bt a0 0:=bt_at a0 0;clear p9;have qi9:(0<(a0.size:Int))=True:=eq_true (od_);replace q9:=eq_true q9;go_wp2;go_meet
         case rel=>exact ⟨_,(((bt a0 0)==45)),rs_,H',⟨by have:=HJ1.out;have:=HK2.out;first|omega|exact Nat.le_refl _⟩,⟨bl_⟩⟩
        ·rw [if_neg c7] at H;have c7b0:=nb_ c7;have c7b1:=nn_ c7;(first|rw [c7b0]|(simp only [i64_w,i32_w];rw [c7b0])|skip);have H':=am_ H;clear H;go_wp2;go_meet
         case rel=>exact ⟨_,(false),rs_,H',⟨by have:=HJ1.out;have:=HK2.out;first|omega|exact Nat.le_refl _⟩,⟨bl_⟩⟩
       case rest =>
        clear HC6;(try clear c5);(try clear c5b0);obtain ⟨kq,x26_5,rfl,HA,HJ5,HB⟩:=hcut
        cases kq with
        | zero=>exact absurd HA.out (by simp [spec_l2ReadNum.j2])
        | succ kj5 =>
         have H:=HA.out;clear HA;simp only [spec_l2ReadNum.j2] at H
         by_cases c10:x26_5=true
         ·subst c10;replace H:=it_ H;have H':=am_ H;clear H;go_wp2;go_roundg kj5
          case measure=>have:=HJ1.out;have:=HK2.out;have:=HJ5.out;omega
          case rel=>exact ⟨(x4_2),(wrap64 (x5_2+1)),rs_,rs_,H',⟨by have:=HJ1.out;have:=HK2.out;have:=HJ5.out;omega⟩,⟨bl_⟩⟩
         ·replace c10:=Bool.eq_false_iff.mpr c10;subst c10;replace H:=if_ H;replace H:=is_ H;obtain ⟨c11,H⟩:=H;have c11b0:=decide_eq_true c11;clear c11;replace H:=is_ H;obtain ⟨c12,H⟩:=H;have c12b0:=decide_eq_true c12;clear c12;replace H:=Option.bind_eq_some_iff.mp H;obtain ⟨t1003,A140,H⟩:=H;replace H:(if t1003=true then (spec_l2ReadNum.l0 kj5 a0 (wrap64 ((wrap64 (x4_2*10))+(((bt a0 x5_2)-48) % 256))) (wrap64 (x5_2+1))) else (some (0,false)))=some (r1,r2):=H;have A14:=am_ A140;clear A140
          by_cases c15:t1003=true
          ·subst c15;replace H:=it_ H;have H':=am_ H;clear H;have p13:0<=(x5_2:Int):=od_;have q13:x5_2<(a0.size:Int):=od_;have hx13:=bt_at a0 x5_2;replace p13:=eq_true p13;replace q13:=eq_true q13;go_wp2_with (first|((with_reducible refine gate_callee (f:=31) rfl ?_);refine gl_ 30 Tryz.func31 #[.int .u8 (bt a0 x5_2)] ?_;(with_reducible refine (spec_l2Digit.calls (bt a0 x5_2) true _ A14.out).mono ?_);rintro e w' ⟨rfl,⟨nd,rfl⟩⟩;refine ⟨_,rfl,?_⟩;have p16:0<=(x5_2:Int):=od_;have q16:x5_2<(a0.size:Int):=od_;have hx16:=bt_at a0 x5_2;replace p16:=eq_true p16;replace q16:=eq_true q16));go_roundg kj5
           case measure=>have:=HJ1.out;have:=HK2.out;have:=HJ5.out;omega
           case rel=>exact ⟨(wrap64 ((wrap64 (x4_2*10))+(((bt a0 x5_2)-48) % 256))),(wrap64 (x5_2+1)),rs_,rs_,H',⟨by have:=HJ1.out;have:=HK2.out;have:=HJ5.out;omega⟩,⟨bl_⟩⟩
          ·replace c15:=Bool.eq_false_iff.mpr c15;subst c15;replace H:=if_ H;simp only [Option.some.injEq,Prod.mk.injEq] at H;obtain ⟨rfl,rfl⟩:=H;have p13:0<=(x5_2:Int):=od_;have q13:x5_2<(a0.size:Int):=od_;have hx13:=bt_at a0 x5_2;replace p13:=eq_true p13;replace q13:=eq_true q13;go_wp2_with (first|((with_reducible refine gate_callee (f:=31) rfl ?_);refine gl_ 30 Tryz.func31 #[.int .u8 (bt a0 x5_2)] ?_;(with_reducible refine (spec_l2Digit.calls (bt a0 x5_2) false _ A14.out).mono ?_);rintro e w' ⟨rfl,⟨nd,rfl⟩⟩;refine ⟨_,rfl,?_⟩));go_ret2;exact ⟨rf_,bl_⟩
      ·rw [if_neg c5] at H;have c5b0:=decide_eq_false c5;clear c5;replace H:=is_ H;obtain ⟨c17,H⟩:=H;have c17b0:=decide_eq_true c17;have c17b1:decide (0<a0.size)=true:=decide_eq_true (by omega);clear c17
       by_cases c19:(bt a0 0)=45
       ·rw [if_pos c19] at H;have c19b0:=eb_ c19;have c19b1:=en_ c19;clear c19;replace H:=Option.bind_eq_some_iff.mp H;obtain ⟨t1001,A200,H⟩:=H;replace H:(some (wrap64 (-x4_2),(t1001.toList==a0.toList)))=some (r1,r2):=H;have A20:=am_ A200;clear A200;simp only [Option.some.injEq,Prod.mk.injEq] at H;obtain ⟨rfl,rfl⟩:=H;have p18:0<=(0:Int):=(by omega);have q18:0<a0.size:=(by have:(0:Int)<(a0.size:Int):=od_;omega);have hx18:∀ h:0<a0.size,((a0[0]'h).toNat:Int)=bt a0 0:=bt_at a0 0;clear p18;have qi18:(0<(a0.size:Int))=True:=eq_true (od_);replace q18:=eq_true q18;go_wp2_with (first|((with_reducible refine gate_callee (f:=58) rfl ?_);refine gl_ 47 Tryz.func58 #[.int .i64 (wrap64 (-x4_2))] ?_;(with_reducible refine (spec_l2Num.calls k2 (wrap64 (-x4_2)) t1001 _ A20.out).mono ?_);rintro e w21 ⟨rfl,hb⟩;refine ⟨_,rfl,?_⟩;replace HB:=am_ (below_step bl_ hb);(try clear hb)));go_ret2;exact ⟨rf_,bl_⟩
       ·rw [if_neg c19] at H;have c19b0:=nb_ c19;have c19b1:=nn_ c19;replace H:=Option.bind_eq_some_iff.mp H;obtain ⟨t1002,A220,H⟩:=H;replace H:(some (x4_2,(t1002.toList==a0.toList)))=some (r1,r2):=H;have A22:=am_ A220;clear A220;simp only [Option.some.injEq,Prod.mk.injEq] at H;obtain ⟨rfl,rfl⟩:=H;have p18:0<=(0:Int):=(by omega);have q18:0<a0.size:=(by have:(0:Int)<(a0.size:Int):=od_;omega);have hx18:∀ h:0<a0.size,((a0[0]'h).toNat:Int)=bt a0 0:=bt_at a0 0;clear p18;have qi18:(0<(a0.size:Int))=True:=eq_true (od_);replace q18:=eq_true q18;go_wp2_with (first|((with_reducible refine gate_callee (f:=58) rfl ?_);refine gl_ 47 Tryz.func58 #[.int .i64 x4_2] ?_;(with_reducible refine (spec_l2Num.calls k2 x4_2 t1002 _ A22.out).mono ?_);rintro e w23 ⟨rfl,hb⟩;refine ⟨_,rfl,?_⟩;replace HB:=am_ (below_step bl_ hb);(try clear hb)));go_ret2;exact ⟨rf_,bl_⟩
end Go.Proofs.YtfdbbpnmnogddaaGreatDoor.Pr
