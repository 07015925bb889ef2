/- Functions of the given program as plain Lean functions, and that the machine's calls come to them; written by a program of this session; no condition but those that each theorem states. -/
import Derived.Test.YtacaelfdmlegdaaGreatDoorShelf
import Derived.Test.YtacaelfdmlegdaaGreatDoorWRepsOne
import Derived.Test.YtacaelfdmlegdaaGreatDoorPrx0
import Derived.Test.YtacaelfdmlegdaaGreatDoorPrxg4cbd6s1
import Derived.Test.YtacaelfdmlegdaaGreatDoorPrxg4cbd6i1
set_option maxHeartbeats 32000000
set_option maxRecDepth 100000
namespace Go.Proofs.YtacaelfdmlegdaaGreatDoor.Pr
open Go.RowKit Go.Proofs.YtacaelfdmlegdaaGreatDoorW.PrintWords Go.Proofs.YtacaelfdmlegdaaGreatDoorW.PrintLast Go.Proofs.YtacaelfdmlegdaaGreatDoorW.PrintMore
attribute [local go_sem] max2_int min2_int max_two min_two max_three min_three max_four min_four
set_option linter.unusedVariables false
set_option linter.unusedSimpArgs false
def any_57_58.f (k : Nat) (l0 : List ByteArray) : Option Bool:=slices_ContainsFunc_string_string.f k (fun x => impl_GoodRelabel_1.f k x) l0
theorem any_57_58.mono : ∀ a0 k,LeO (any_57_58.f k a0) (any_57_58.f (k + 1) a0):=fun a0 k => slices_ContainsFunc_string_string.mono _ _ (fun x => impl_GoodRelabel_1.mono _ _) a0 k
theorem any_57_58.calls (k : Nat) (A0 : Option Addr) (c0 : Nat) (l0 : List ByteArray) (r : Bool) (w : World) (hr0 : Kd.C Kd.string w A0 l0.length l0) (hc0 : l0.length ≤ c0) (h : any_57_58.f k l0 = some r) :
  Calls Tryz.prog 57 #[.slice A0 l0.length c0,.func (.func 58) #[] #[]] w fun e w' => e = .returned (.bool r) ∧ Below w.heap.size w w' :=
 slices_ContainsFunc_string_string.calls k _ 58 (.func (.func 58) #[] #[]) #[] rfl (enters_ Tryz.func58 (by kernel_rfl) rfl) A0 c0 l0 r w hr0 hc0 (by
  intro W x b hW hP;exact (impl_GoodRelabel_1.calls k x b W hP).mono (fun e w' ⟨h1,nd,h2⟩ => ⟨h1,by rw [h2];exact pw_below_drewN (Below.refl _ _) nd⟩)) h
mutual
def impl_GoodRelabel.j0 : Nat → Int → Bool → Int → List ByteArray → ByteArray → ByteArray → ByteArray → ByteArray → Int → Option (Bool)
 | 0,_,_,_,_,_,_,_,_,_ => none
 | k + 1,x3,x34,x1002000,x1002001,x1002002,x1002003,x1002004,x1002005,x1002006 => if x34 = true then (some false) else ((impl_isOne.f k x3 (([3,4,8] : List Int))).bind fun t1008 => (if (t1008 != (x1002004.toList != ([] : List UInt8))) = true then (impl_GoodRelabel.j1 k x3 true x1002000 x1002001 x1002002 x1002003 x1002004 x1002005 x1002006) else (if x1002004.toList = ([] : List UInt8) then (impl_GoodRelabel.j1 k x3 false x1002000 x1002001 x1002002 x1002003 x1002004 x1002005 x1002006) else ((impl_isName.f k x1002004).bind fun t1009 => (impl_GoodRelabel.j1 k x3 (!t1009) x1002000 x1002001 x1002002 x1002003 x1002004 x1002005 x1002006)))))
def impl_GoodRelabel.j1 : Nat → Int → Bool → Int → List ByteArray → ByteArray → ByteArray → ByteArray → ByteArray → Int → Option (Bool)
 | 0,_,_,_,_,_,_,_,_,_ => none
 | k + 1,x3,x52,x1002000,x1002001,x1002002,x1002003,x1002004,x1002005,x1002006 => if x52 = true then (some false) else ((impl_isFilling.f k x1002005).bind fun t1010 => (if t1010 = true then (if x1002005.toList = ([] : List UInt8) then (impl_GoodRelabel.j2 k x3 false x1002000 x1002001 x1002002 x1002003 x1002004 x1002005 x1002006) else ((impl_isOne.f k x3 (([3,5] : List Int))).bind fun t1014 => (impl_GoodRelabel.j2 k x3 (!t1014) x1002000 x1002001 x1002002 x1002003 x1002004 x1002005 x1002006))) else (impl_GoodRelabel.j2 k x3 true x1002000 x1002001 x1002002 x1002003 x1002004 x1002005 x1002006)))
def impl_GoodRelabel.j2 : Nat → Int → Bool → Int → List ByteArray → ByteArray → ByteArray → ByteArray → ByteArray → Int → Option (Bool)
 | 0,_,_,_,_,_,_,_,_,_ => none
 | k + 1,x3,x67,x1002000,x1002001,x1002002,x1002003,x1002004,x1002005,x1002006 => if x67 = true then (some false) else (if x3 = 4 then (if x1002006 < 1 then (impl_GoodRelabel.j3 k x3 true x1002000 x1002001 x1002002 x1002003 x1002004 x1002005 x1002006) else (if x1002006 > 1000 then (impl_GoodRelabel.j3 k x3 true x1002000 x1002001 x1002002 x1002003 x1002004 x1002005 x1002006) else (impl_GoodRelabel.j3 k x3 false x1002000 x1002001 x1002002 x1002003 x1002004 x1002005 x1002006))) else (impl_GoodRelabel.j3 k x3 (x1002006 != 0) x1002000 x1002001 x1002002 x1002003 x1002004 x1002005 x1002006))
def impl_GoodRelabel.j3 : Nat → Int → Bool → Int → List ByteArray → ByteArray → ByteArray → ByteArray → ByteArray → Int → Option (Bool)
 | 0,_,_,_,_,_,_,_,_,_ => none
 | k + 1,x3,x88,x1002000,x1002001,x1002002,x1002003,x1002004,x1002005,x1002006 => if x88 = true then (some false) else ((impl_isOne.f k x3 (([5,6,7] : List Int))).bind fun t1018 => (if t1018 = true then (if (x1002001.length : Int) > 0 then (some false) else (if x1002002.toList = ([] : List UInt8) then (if x1002003.toList = ([] : List UInt8) then (some true) else ((impl_isOne.f k x3 (([4,8] : List Int))).bind fun t1022 => (some (!t1022)))) else (some false))) else (if x1002003.toList = ([] : List UInt8) then (some true) else ((impl_isOne.f k x3 (([4,8] : List Int))).bind fun t1026 => (some (!t1026))))))
end
def impl_GoodRelabel.f (k : Nat) (a0_0 : Int) (l0_1 : List ByteArray) (a0_2 : ByteArray) (a0_3 : ByteArray) (a0_4 : ByteArray) (a0_5 : ByteArray) (a0_6 : Int) : Option (Bool):=if a0_0 < 1 then (impl_GoodRelabel.j0 k a0_0 true a0_0 l0_1 a0_2 a0_3 a0_4 a0_5 a0_6) else (if a0_0 > 8 then (impl_GoodRelabel.j0 k a0_0 true a0_0 l0_1 a0_2 a0_3 a0_4 a0_5 a0_6) else (if (l0_1.length : Int) > 10 then (impl_GoodRelabel.j0 k a0_0 true a0_0 l0_1 a0_2 a0_3 a0_4 a0_5 a0_6) else ((any_57_58.f k l0_1).bind fun t1002 => (if t1002 = true then (impl_GoodRelabel.j0 k a0_0 true a0_0 l0_1 a0_2 a0_3 a0_4 a0_5 a0_6) else ((impl_printed.f k a0_2 10).bind fun t1003 => (if t1003 = true then ((impl_GoodPattern.f k a0_3).bind fun t1004 => (impl_GoodRelabel.j0 k a0_0 (!t1004) a0_0 l0_1 a0_2 a0_3 a0_4 a0_5 a0_6)) else (impl_GoodRelabel.j0 k a0_0 true a0_0 l0_1 a0_2 a0_3 a0_4 a0_5 a0_6)))))))
theorem impl_GoodRelabel.mono_l : ∀ k,(∀ y0 y1 y2 y3 y4 y5 y6 y7 y8,LeO (impl_GoodRelabel.j0 k y0 y1 y2 y3 y4 y5 y6 y7 y8) (impl_GoodRelabel.j0 (k + 1) y0 y1 y2 y3 y4 y5 y6 y7 y8)) ∧ (∀ y0 y1 y2 y3 y4 y5 y6 y7 y8,LeO (impl_GoodRelabel.j1 k y0 y1 y2 y3 y4 y5 y6 y7 y8) (impl_GoodRelabel.j1 (k + 1) y0 y1 y2 y3 y4 y5 y6 y7 y8)) ∧ (∀ y0 y1 y2 y3 y4 y5 y6 y7 y8,LeO (impl_GoodRelabel.j2 k y0 y1 y2 y3 y4 y5 y6 y7 y8) (impl_GoodRelabel.j2 (k + 1) y0 y1 y2 y3 y4 y5 y6 y7 y8)) ∧ (∀ y0 y1 y2 y3 y4 y5 y6 y7 y8,LeO (impl_GoodRelabel.j3 k y0 y1 y2 y3 y4 y5 y6 y7 y8) (impl_GoodRelabel.j3 (k + 1) y0 y1 y2 y3 y4 y5 y6 y7 y8))
 | 0 => ⟨fun _ _ _ _ _ _ _ _ _ r h => by simp [impl_GoodRelabel.j0] at h,fun _ _ _ _ _ _ _ _ _ r h => by simp [impl_GoodRelabel.j1] at h,fun _ _ _ _ _ _ _ _ _ r h => by simp [impl_GoodRelabel.j2] at h,fun _ _ _ _ _ _ _ _ _ r h => by simp [impl_GoodRelabel.j3] at h⟩
 | k + 1 => by
  obtain ⟨ih0,ih1,ih2,ih3⟩:=impl_GoodRelabel.mono_l k
  refine ⟨?_,?_,?_,?_⟩
  ·intro y0 y1 y2 y3 y4 y5 y6 y7 y8
   unfold impl_GoodRelabel.j0
   repeat' with_reducible first|apply ih0|apply ih1|apply ih2|apply ih3|apply any_57_58.mono|apply impl_GoodPattern.mono|apply impl_isFilling.mono|apply impl_isName.mono|apply impl_isOne.mono|apply impl_printed.mono|apply LeO.refl|apply LeO.none|apply LeO.ite|refine LeO.bind ?_ (fun _ => ?_)
  ·intro y0 y1 y2 y3 y4 y5 y6 y7 y8
   unfold impl_GoodRelabel.j1
   repeat' with_reducible first|apply ih0|apply ih1|apply ih2|apply ih3|apply any_57_58.mono|apply impl_GoodPattern.mono|apply impl_isFilling.mono|apply impl_isName.mono|apply impl_isOne.mono|apply impl_printed.mono|apply LeO.refl|apply LeO.none|apply LeO.ite|refine LeO.bind ?_ (fun _ => ?_)
  ·intro y0 y1 y2 y3 y4 y5 y6 y7 y8
   unfold impl_GoodRelabel.j2
   repeat' with_reducible first|apply ih0|apply ih1|apply ih2|apply ih3|apply any_57_58.mono|apply impl_GoodPattern.mono|apply impl_isFilling.mono|apply impl_isName.mono|apply impl_isOne.mono|apply impl_printed.mono|apply LeO.refl|apply LeO.none|apply LeO.ite|refine LeO.bind ?_ (fun _ => ?_)
  ·intro y0 y1 y2 y3 y4 y5 y6 y7 y8
   unfold impl_GoodRelabel.j3
   repeat' with_reducible first|apply ih0|apply ih1|apply ih2|apply ih3|apply any_57_58.mono|apply impl_GoodPattern.mono|apply impl_isFilling.mono|apply impl_isName.mono|apply impl_isOne.mono|apply impl_printed.mono|apply LeO.refl|apply LeO.none|apply LeO.ite|refine LeO.bind ?_ (fun _ => ?_)
theorem impl_GoodRelabel.mono : ∀ a0 a1 a2 a3 a4 a5 a6 k,LeO (impl_GoodRelabel.f k a0 a1 a2 a3 a4 a5 a6) (impl_GoodRelabel.f (k + 1) a0 a1 a2 a3 a4 a5 a6):=by
 intro a0 a1 a2 a3 a4 a5 a6 k
 obtain ⟨ih0,ih1,ih2,ih3⟩:=impl_GoodRelabel.mono_l k
 unfold impl_GoodRelabel.f
 repeat' with_reducible first|apply ih0|apply ih1|apply ih2|apply ih3|apply any_57_58.mono|apply impl_GoodPattern.mono|apply impl_isFilling.mono|apply impl_isName.mono|apply impl_isOne.mono|apply impl_printed.mono|apply LeO.refl|apply LeO.none|apply LeO.ite|refine LeO.bind ?_ (fun _ => ?_)
def impl_GoodRelabel.T4 : Bool × List (List Nat × List Nat):=(true,[([],[]),([],[]),([0,1],[0,1]),([],[]),([3],[3]),([4],[4]),([2,5],[2,5]),([6,2],[6]),([7],[7]),([8,7],[7,8]),([9,7],[7,9]),([10,7,7],[7,10]),([11],[11]),([12,11],[11,12]),([13,11,11],[11,13]),([14,11],[11,14]),([11,15,7],[7,11,15]),([7,16],[7,16])])
def impl_GoodRelabel.B4 : List Nat:=[0,0,3,0,8,24,63,127,255,511,1023,2047,4095,8191,16383,32767,65535,131071]
theorem impl_GoodRelabel.tab4 : rtab .any (opsOf Tryz.f30 4) = impl_GoodRelabel.T4:=by kernel_rfl
theorem impl_GoodRelabel.bits4 : waitsOk impl_GoodRelabel.T4.2 impl_GoodRelabel.B4 = true:=by kernel_rfl
theorem impl_GoodRelabel.calls (k : Nat) (a0_0 : Int) (A0_1 : Option Addr) (c0_1 : Nat) (l0_1 : List ByteArray) (a0_2 : ByteArray) (a0_3 : ByteArray) (a0_4 : ByteArray) (a0_5 : ByteArray) (a0_6 : Int) (r : Bool) (w : World) (hr0_1 : Kd.C Kd.string w A0_1 l0_1.length l0_1) (hc0_1 : l0_1.length ≤ c0_1) (h : impl_GoodRelabel.f k a0_0 l0_1 a0_2 a0_3 a0_4 a0_5 a0_6 = some r) :
  Calls Tryz.prog 30 #[.agg #[.int .i64 a0_0,.slice A0_1 l0_1.length c0_1,.string a0_2,.string a0_3,.string a0_4,.string a0_5,.int .i64 a0_6]] w fun e w' => e = .returned (.bool r) ∧ Below w.heap.size w w':=by
 have hu32:=Tryz.underlying32;have HR0_1:=am_ hr0_1;have HC0_1:=am_ hc0_1;clear hr0_1 hc0_1;have HB:=am_ (Below.refl w.heap.size w);have H:=h;clear h;unfold impl_GoodRelabel.f at H;have HC2:=am_ H;clear H;go_enter Tryz.func30,Tryz.ntmps30;go_upto_region 2 with (first|((with_reducible refine gate_dst (N:=1) rfl ?_);(try (refine gate_guard (by rfl) ?_;dsimp only));refine bx_ 1 #[.int .i64 a0_0,.slice A0_1 l0_1.length c0_1,.string a0_2,.string a0_3,.string a0_4,.string a0_5,.int .i64 a0_6] 32 ?_;intro gb1001 hg w3 hbox hb;have BK1001:=am_ (hbox);have GW1001:=am_ (gs_ hg : w.heap.size ≤ gb1001);replace HB:=am_ (below_step bl_ hb);have GE1001:=GW1001;clear hb hbox hg;have hz4:=bk7_ BK1001));(try simp only [Act.put,List.setIfInBounds_toArray,List.set_cons_zero,List.set_cons_succ])
 go_cut [34] (fun v34 wc => ∃ (kq : Nat) (x34_1 : Bool),v34 = .bool x34_1 ∧ Aside0 (impl_GoodRelabel.j0 kq a0_0 x34_1 a0_0 l0_1 a0_2 a0_3 a0_4 a0_5 a0_6 = some r) ∧ Aside0 (kq ≤ k) ∧ Aside0 (wc.heap[gb1001]? = some (.cells #[.int .i64 a0_0,(.slice A0_1 l0_1.length c0_1),.string a0_2,.string a0_3,.string a0_4,.string a0_5,.int .i64 a0_6] 32 (0,0))) ∧ Aside0 (Below w.heap.size w wc))
 case first =>
  have H:=HC2.out;clear HC2
  by_cases c5 : a0_0 < 1
  ·rw [if_pos c5] at H;have c5b0:=decide_eq_true c5;clear c5;(first|rw [c5b0]|(simp only [i64_w,i32_w];rw [c5b0])|skip);have H':=am_ H;clear H;go_wp2;go_meet
   case rel => exact ⟨_,(true),rs_,H',⟨by first|omega|exact Nat.le_refl _⟩,⟨vk_ BK1001⟩,⟨bg_⟩⟩
  ·rw [if_neg c5] at H;have c5b0:=decide_eq_false c5;clear c5;(first|rw [c5b0]|(simp only [i64_w,i32_w];rw [c5b0])|skip)
   by_cases c6 : a0_0 > 8
   ·rw [if_pos c6] at H;have c6b0:=dg_ c6;clear c6;have H':=am_ H;clear H;go_wp2;go_meet
    case rel => exact ⟨_,(true),rs_,H',⟨by first|omega|exact Nat.le_refl _⟩,⟨vk_ BK1001⟩,⟨bg_⟩⟩
   ·rw [if_neg c6] at H;have c6b0:=df_ c6;clear c6
    by_cases c7 : (l0_1.length : Int) > 10
    ·rw [if_pos c7] at H;have c7b0:=dg_ c7;have c7b1 : decide (10 < l0_1.length) = true:=decide_eq_true (by omega);clear c7;have H':=am_ H;clear H;have hz8:=bk7_ BK1001;go_wp2;go_meet
     case rel => exact ⟨_,(true),rs_,H',⟨by first|omega|exact Nat.le_refl _⟩,⟨vk_ BK1001⟩,⟨bg_⟩⟩
    ·rw [if_neg c7] at H;have c7b0:=df_ c7;have c7b1 : decide (10 < l0_1.length) = false:=decide_eq_false (by omega);clear c7;replace H:=bs_ H;obtain ⟨t1002,A9,H⟩:=H
     by_cases c10 : t1002 = true
     ·subst c10;replace H:=it_ H;have H':=am_ H;clear H;have hz11:=bk7_ BK1001;go_wp2_with (first|(go_at_call 57;(with_reducible refine (any_57_58.calls k _ _ l0_1 true _ ?side1 ?side2 A9.out).mono ?_);(case side1 => exact cc_ (Kd.C_below HR0_1.out HB.out));(case side2 => exact HC0_1.out);rintro e w12 ⟨rfl,hb⟩;replace BK1001:=vb_ BK1001 hb;replace HB:=am_ (below_step bg_ hb);(try clear hb)));go_meet
      case rel => exact ⟨_,(true),rs_,H',⟨by first|omega|exact Nat.le_refl _⟩,⟨vk_ BK1001⟩,⟨bg_⟩⟩
     ·replace c10:=Bool.eq_false_iff.mpr c10;subst c10;replace H:=if_ H;replace H:=bs_ H;obtain ⟨t1003,A13,H⟩:=H
      by_cases c14 : t1003 = true
      ·subst c14;replace H:=it_ H;replace H:=bs_ H;obtain ⟨t1004,A15,H⟩:=H;have H':=am_ H;clear H;have hz16:=bk7_ BK1001;go_wp2_with (first|(go_at_call 57;(with_reducible refine (any_57_58.calls k _ _ l0_1 false _ ?side1 ?side2 A9.out).mono ?_);(case side1 => exact cc_ (Kd.C_below HR0_1.out HB.out));(case side2 => exact HC0_1.out);rintro e w17 ⟨rfl,hb⟩;replace BK1001:=vb_ BK1001 hb;replace HB:=am_ (below_step bg_ hb);(try clear hb);have hz18:=bk7_ BK1001)|(go_at_call 59;(with_reducible refine (impl_printed.calls k a0_2 10 true _ A13.out).mono ?_);rintro e w' ⟨rfl,⟨nd,rfl⟩⟩)|(go_at_call 60;(with_reducible refine (impl_GoodPattern.calls k a0_3 t1004 _ A15.out).mono ?_);rintro e w19 ⟨rfl,hb⟩;replace BK1001:=vb_ BK1001 hb;replace HB:=am_ (below_step bg_ hb);(try clear hb)));go_meet
       case rel => exact ⟨_,(!t1004),rs_,H',⟨by first|omega|exact Nat.le_refl _⟩,⟨vk_ BK1001⟩,⟨bg_⟩⟩
      ·replace c14:=Bool.eq_false_iff.mpr c14;subst c14;replace H:=if_ H;have H':=am_ H;clear H;have hz20:=bk7_ BK1001;go_wp2_with (first|(go_at_call 57;(with_reducible refine (any_57_58.calls k _ _ l0_1 false _ ?side1 ?side2 A9.out).mono ?_);(case side1 => exact cc_ (Kd.C_below HR0_1.out HB.out));(case side2 => exact HC0_1.out);rintro e w21 ⟨rfl,hb⟩;replace BK1001:=vb_ BK1001 hb;replace HB:=am_ (below_step bg_ hb);(try clear hb);have hz22:=bk7_ BK1001)|(go_at_call 59;(with_reducible refine (impl_printed.calls k a0_2 10 false _ A13.out).mono ?_);rintro e w' ⟨rfl,⟨nd,rfl⟩⟩));go_meet
       case rel => exact ⟨_,(true),rs_,H',⟨by first|omega|exact Nat.le_refl _⟩,⟨vk_ BK1001⟩,⟨bg_⟩⟩
 case rest =>
  clear HC2;(try clear hz4);obtain ⟨kq,x34_1,rfl,HA,HJ1,BK1001,HB⟩:=hcut
  cases kq with
  | zero => exact absurd HA.out (by simp [impl_GoodRelabel.j0])
  | succ kj1 =>
   have H:=HA.out;clear HA;simp only [impl_GoodRelabel.j0] at H
   by_cases c23 : x34_1 = true
   ·subst c23;replace H:=it_ H;obtain rfl:=si_ H;go_wp2;go_ret;exact ⟨rf_,bg_⟩
   ·replace c23:=Bool.eq_false_iff.mpr c23;subst c23;replace H:=if_ H;have HC24:=am_ H;clear H;go_upto_region 4 with (fail)
    go_cut [52] (fun v52 wc => ∃ (kq : Nat) (x52_23 : Bool),v52 = .bool x52_23 ∧ Aside0 (impl_GoodRelabel.j1 kq a0_0 x52_23 a0_0 l0_1 a0_2 a0_3 a0_4 a0_5 a0_6 = some r) ∧ Aside0 (kq ≤ kj1) ∧ Aside0 (wc.heap[gb1001]? = some (.cells #[.int .i64 a0_0,(.slice A0_1 l0_1.length c0_1),.string a0_2,.string a0_3,.string a0_4,.string a0_5,.int .i64 a0_6] 32 (0,0))) ∧ Aside0 (Below w.heap.size w wc))
    case first =>
     have H:=HC24.out;clear HC24;obtain ⟨y1005,hy1005⟩ : ∃ y_ : List Int,y_ = (([3,4,8] : List Int)):=⟨_,rfl⟩;replace H : ((impl_isOne.f kj1 a0_0 y1005).bind fun t1008 => (if (t1008 != (a0_4.toList != ([] : List UInt8))) = true then (impl_GoodRelabel.j1 kj1 a0_0 true a0_0 l0_1 a0_2 a0_3 a0_4 a0_5 a0_6) else (if a0_4.toList = ([] : List UInt8) then (impl_GoodRelabel.j1 kj1 a0_0 false a0_0 l0_1 a0_2 a0_3 a0_4 a0_5 a0_6) else ((impl_isName.f kj1 a0_4).bind fun t1009 => (impl_GoodRelabel.j1 kj1 a0_0 (!t1009) a0_0 l0_1 a0_2 a0_3 a0_4 a0_5 a0_6))))) = some r:=by first|(rw [hy1005];with_reducible exact H)|(have H2_:=(Option.bind_some _ _).symm.trans H;rw [hy1005];with_reducible exact H2_)|(have H2_:=(Option.bind_some _ _).symm.trans H;with_reducible exact H2_)|with_reducible exact H|(rw [hy1005];exact H)|exact H
     have Ny1005:=am_ hy1005;clear hy1005;replace H:=bs_ H;obtain ⟨t1008,A25,H⟩:=H
     by_cases c26 : (t1008 != (a0_4.toList != ([] : List UInt8))) = true
     ·rw [if_pos c26] at H;have c26b0 : (t1008 != (a0_4.toList != ([] : List UInt8))) = true:=c26;(try (have c26b1 : decide (t1008 = (a0_4.toList != ([] : List UInt8))) = false:=by simpa using c26));(try (have c26b2 : (t1008 == (a0_4.toList != ([] : List UInt8))) = false:=by simpa using c26));(try (have c26b2n : (t1008 == !a0_4.toList.isEmpty) = false:=by rw [← Go.Proofs.YtacaelfdmlegdaaGreatDoor.Gt.nil_bne];exact c26b2));(try (have c26b3 : ¬ (t1008 = (a0_4.toList != ([] : List UInt8))):=by simpa using c26));clear c26;(first|rw [c26b0]|(simp only [i64_w,i32_w];rw [c26b0])|skip);have H':=am_ H;clear H;(try go_wp2);have n0_:=am_ (blk_drew BK1001.out);have n1_:=am_ (below_drew1 HB.out);clear BK1001;clear HB;have BK1001:=n0_;have HB:=n1_;clear n0_ n1_;refine start_ (n:=18) (S:=fun w' => w'.cell? ⟨gb1001,0,none⟩ = some (.int .i64 a0_0) ∧ w'.cell? ⟨gb1001,1,none⟩ = some (.slice A0_1 l0_1.length c0_1) ∧ w'.cell? ⟨gb1001,2,none⟩ = some (.string a0_2) ∧ w'.cell? ⟨gb1001,3,none⟩ = some (.string a0_3) ∧ w'.cell? ⟨gb1001,4,none⟩ = some (.string a0_4) ∧ w'.cell? ⟨gb1001,5,none⟩ = some (.string a0_5) ∧ w'.cell? ⟨gb1001,6,none⟩ = some (.int .i64 a0_6)) (ds:=[]) (bz 18 0) (by kernel_rfl) rfl rfl ⟨(blk_cell BK1001.out 0).trans rfl,(blk_cell BK1001.out 1).trans rfl,(blk_cell BK1001.out 2).trans rfl,(blk_cell BK1001.out 3).trans rfl,(blk_cell BK1001.out 4).trans rfl,(blk_cell BK1001.out 5).trans rfl,(blk_cell BK1001.out 6).trans rfl⟩ (fun hHeld => ?_);refine with_tabW impl_GoodRelabel.tab4 impl_GoodRelabel.bits4 (fun HT_ HW_ => ?_);generalize wc.drew = w27 at BK1001 HB hHeld ⊢;refine pz_ 0 35 1 ?_;refine pz_ 3 38 9 ?_;refine tz_ 4 39 25 ?_;refine pz_ 5 40 57 ?_;refine one_ (i:=1) (N:=some 36) (bz 18 59) rfl rfl (one_of HT_.out (by kernel_rfl)) (by decide) (fun K hK => ?_);refine Kd.R_lit_step (Kd.int .i64) _ 3 ?hg (N:=36) ?hd (xs:=([3,4,8] : List Int)) (inner:=[.int .i64 3,.int .i64 4,.int .i64 8]) (ok:=fun _ => True) (okp:=fun _ => True) ?hr ?hp (fun _ hk => hk) trivial (Below.refl _ _) (Nat.le_refl _) (by simp) ?_;(case hd => rfl);(case hg => rfl);(case hr => first|(go_simp;done)|(go_simp;rfl));(case hp => exact (Reps.one (show Kd.M (Kd.int .i64) _ _ _ 3 [.int .i64 3] from rfl) (Reps.one (show Kd.M (Kd.int .i64) _ _ _ 4 [.int .i64 4] from rfl) (Reps.one (show Kd.M (Kd.int .i64) _ _ _ 8 [.int .i64 8] from rfl) (Reps.none _ _)))));intro v1006 w28 ho29 hb hg_ hnew_;clear hg_ hnew_;(first|rw [← Ny1005.out] at ho29|(simp only [Int.reduceToNat] at ho29;rw [← Ny1005.out] at ho29));have n0_:=am_ (Kd.R_lower ho29 (below_size bg_));have n1_:=am_ (blk_below (g:=gb1001) (vk_ BK1001) hb);have n2_:=am_ (below_step bg_ hb);clear BK1001;clear HB;have HO1007:=n0_;have BK1001:=n1_;have HB:=n2_;clear n0_ n1_ n2_;clear hb ho29;obtain ⟨Ao30,co30,eo30⟩:=Kd.R_slice HO1007.out;(first|subst eo30|(injection eo30 with f1_ f2_ f3_;have f4_:=f1_.symm;have f5_:=f3_.symm;clear f1_ f2_ f3_;subst f4_;subst f5_));refine hK.out _ _ ⟨(blk_cell BK1001.out 0).trans rfl,(blk_cell BK1001.out 1).trans rfl,(blk_cell BK1001.out 2).trans rfl,(blk_cell BK1001.out 3).trans rfl,(blk_cell BK1001.out 4).trans rfl,(blk_cell BK1001.out 5).trans rfl,(blk_cell BK1001.out 6).trans rfl⟩ (fun hHeld => ?_);clear hK K;refine norm_ (a':=?_) ?_ ?_;rotate_left
      ·show Act.put _ (some 36) _ = _;simp only [Act.put,List.setIfInBounds_toArray,List.set_cons_zero,List.set_cons_succ,i64_w,i32_w];rfl
      refine one_ (i:=2) (N:=some 37) (bz 18 63) rfl rfl (one_of HT_.out (by kernel_rfl)) (by decide) (fun K hK => ?_);refine goes_ Tryz.func61 (by kernel_rfl) rfl #[.int .i64 a0_0,.slice Ao30 y1005.length co30] (by rfl) rfl rfl ag_ ?_;(with_reducible refine (impl_isOne.calls kj1 a0_0 _ _ y1005 t1008 _ ?side1 ?side2 A25.out).mono ?_);(case side1 => exact cc_ (Kd.R_reads' HO1007.out).2.2);(case side2 => exact (Kd.R_reads' HO1007.out).2.1);rintro e w' ⟨rfl,⟨nd,rfl⟩⟩;refine ⟨_,rfl,?_⟩;refine hK.out _ _ ⟨(blk_cell BK1001.out 0).trans rfl,(blk_cell BK1001.out 1).trans rfl,(blk_cell BK1001.out 2).trans rfl,(blk_cell BK1001.out 3).trans rfl,(blk_cell BK1001.out 4).trans rfl,(blk_cell BK1001.out 5).trans rfl,(blk_cell BK1001.out 6).trans rfl⟩ (fun hHeld => ?_);clear hK K;refine norm_ (a':=?_) ?_ ?_;rotate_left
      ·show Act.put _ (some 37) _ = _;simp only [Act.put,List.setIfInBounds_toArray,List.set_cons_zero,List.set_cons_succ,i64_w,i32_w];rfl
      refine pz_ 6 41 127 ?_;refine pz_ 7 42 255 ?_;refine uz_ 8 43 511 ?_;refine uz_ 9 44 1023 ?_;refine uz_ 10 45 2047 ?_;refine uz_ 11 46 4095 ?_;refine uz_ 12 47 8191 ?_;refine uz_ 13 48 16383 ?_;refine uz_ 14 49 32767 ?_;refine uz_ 15 50 65535 ?_;refine uz_ 16 51 131071 ?_;refine pz_ 17 52 262143 ?_;refine done_ (done_of HT_.out (by kernel_rfl)) ?_;(try go_wp2);go_meet
      case rel => exact ⟨_,(true),rs_,H',⟨by have:=HJ1.out;first|omega|exact Nat.le_refl _⟩,⟨vk_ BK1001⟩,⟨bg_⟩⟩
     ·rw [if_neg c26] at H;have c26b0 : (t1008 != (a0_4.toList != ([] : List UInt8))) = false:=by simpa using c26
      (try (have c26b1 : decide (t1008 = (a0_4.toList != ([] : List UInt8))) = true:=by simpa using c26));(try (have c26b2 : (t1008 == (a0_4.toList != ([] : List UInt8))) = true:=by simpa using c26));(try (have c26b2n : (t1008 == !a0_4.toList.isEmpty) = true:=by rw [← Go.Proofs.YtacaelfdmlegdaaGreatDoor.Gt.nil_bne];exact c26b2));clear c26;(first|rw [c26b0]|(simp only [i64_w,i32_w];rw [c26b0])|skip)
      by_cases c31 : a0_4.toList = ([] : List UInt8)
      ·rw [if_pos c31] at H;have c31b0:=eb_ c31;have c31b1:=en_ c31;(try (have c31b1_c26b2 : t1008 = true:=by have e_:=c26b2;rw [c31b1] at e_;revert e_;cases t1008 <;> simp));(try (have c31b1_c26b2 : t1008 = false:=by have e_:=c26b2;rw [c31b1] at e_;revert e_;cases t1008 <;> simp));clear c31;have H':=am_ H;clear H;(try go_wp2);have n0_:=am_ (blk_drew BK1001.out);have n1_:=am_ (below_drew1 HB.out);clear BK1001;clear HB;have BK1001:=n0_;have HB:=n1_;clear n0_ n1_;refine start_ (n:=18) (S:=fun w' => w'.cell? ⟨gb1001,0,none⟩ = some (.int .i64 a0_0) ∧ w'.cell? ⟨gb1001,1,none⟩ = some (.slice A0_1 l0_1.length c0_1) ∧ w'.cell? ⟨gb1001,2,none⟩ = some (.string a0_2) ∧ w'.cell? ⟨gb1001,3,none⟩ = some (.string a0_3) ∧ w'.cell? ⟨gb1001,4,none⟩ = some (.string a0_4) ∧ w'.cell? ⟨gb1001,5,none⟩ = some (.string a0_5) ∧ w'.cell? ⟨gb1001,6,none⟩ = some (.int .i64 a0_6)) (ds:=[]) (bz 18 0) (by kernel_rfl) rfl rfl ⟨(blk_cell BK1001.out 0).trans rfl,(blk_cell BK1001.out 1).trans rfl,(blk_cell BK1001.out 2).trans rfl,(blk_cell BK1001.out 3).trans rfl,(blk_cell BK1001.out 4).trans rfl,(blk_cell BK1001.out 5).trans rfl,(blk_cell BK1001.out 6).trans rfl⟩ (fun hHeld => ?_);refine with_tabW impl_GoodRelabel.tab4 impl_GoodRelabel.bits4 (fun HT_ HW_ => ?_);generalize wc.drew = w32 at BK1001 HB hHeld ⊢;refine pz_ 0 35 1 ?_;refine pz_ 3 38 9 ?_;refine tz_ 4 39 25 ?_;refine pz_ 5 40 57 ?_;refine one_ (i:=1) (N:=some 36) (bz 18 59) rfl rfl (one_of HT_.out (by kernel_rfl)) (by decide) (fun K hK => ?_);refine Kd.R_lit_step (Kd.int .i64) _ 3 ?hg (N:=36) ?hd (xs:=([3,4,8] : List Int)) (inner:=[.int .i64 3,.int .i64 4,.int .i64 8]) (ok:=fun _ => True) (okp:=fun _ => True) ?hr ?hp (fun _ hk => hk) trivial (Below.refl _ _) (Nat.le_refl _) (by simp) ?_;(case hd => rfl);(case hg => rfl);(case hr => first|(go_simp;done)|(go_simp;rfl));(case hp => exact (Reps.one (show Kd.M (Kd.int .i64) _ _ _ 3 [.int .i64 3] from rfl) (Reps.one (show Kd.M (Kd.int .i64) _ _ _ 4 [.int .i64 4] from rfl) (Reps.one (show Kd.M (Kd.int .i64) _ _ _ 8 [.int .i64 8] from rfl) (Reps.none _ _)))));intro v1006 w33 ho34 hb hg_ hnew_;clear hg_ hnew_;(first|rw [← Ny1005.out] at ho34|(simp only [Int.reduceToNat] at ho34;rw [← Ny1005.out] at ho34));have n0_:=am_ (Kd.R_lower ho34 (below_size bg_));have n1_:=am_ (blk_below (g:=gb1001) (vk_ BK1001) hb);have n2_:=am_ (below_step bg_ hb);clear BK1001;clear HB;have HO1007:=n0_;have BK1001:=n1_;have HB:=n2_;clear n0_ n1_ n2_;clear hb ho34;obtain ⟨Ao35,co35,eo35⟩:=Kd.R_slice HO1007.out;(first|subst eo35|(injection eo35 with f1_ f2_ f3_;have f4_:=f1_.symm;have f5_:=f3_.symm;clear f1_ f2_ f3_;subst f4_;subst f5_));refine hK.out _ _ ⟨(blk_cell BK1001.out 0).trans rfl,(blk_cell BK1001.out 1).trans rfl,(blk_cell BK1001.out 2).trans rfl,(blk_cell BK1001.out 3).trans rfl,(blk_cell BK1001.out 4).trans rfl,(blk_cell BK1001.out 5).trans rfl,(blk_cell BK1001.out 6).trans rfl⟩ (fun hHeld => ?_);clear hK K;refine norm_ (a':=?_) ?_ ?_;rotate_left
       ·show Act.put _ (some 36) _ = _;simp only [Act.put,List.setIfInBounds_toArray,List.set_cons_zero,List.set_cons_succ,i64_w,i32_w];rfl
       refine one_ (i:=2) (N:=some 37) (bz 18 63) rfl rfl (one_of HT_.out (by kernel_rfl)) (by decide) (fun K hK => ?_);refine goes_ Tryz.func61 (by kernel_rfl) rfl #[.int .i64 a0_0,.slice Ao35 y1005.length co35] (by rfl) rfl rfl ag_ ?_;(with_reducible refine (impl_isOne.calls kj1 a0_0 _ _ y1005 t1008 _ ?side1 ?side2 A25.out).mono ?_);(case side1 => exact cc_ (Kd.R_reads' HO1007.out).2.2);(case side2 => exact (Kd.R_reads' HO1007.out).2.1);rintro e w' ⟨rfl,⟨nd,rfl⟩⟩;refine ⟨_,rfl,?_⟩;refine hK.out _ _ ⟨(blk_cell BK1001.out 0).trans rfl,(blk_cell BK1001.out 1).trans rfl,(blk_cell BK1001.out 2).trans rfl,(blk_cell BK1001.out 3).trans rfl,(blk_cell BK1001.out 4).trans rfl,(blk_cell BK1001.out 5).trans rfl,(blk_cell BK1001.out 6).trans rfl⟩ (fun hHeld => ?_);clear hK K;refine norm_ (a':=?_) ?_ ?_;rotate_left
       ·show Act.put _ (some 37) _ = _;simp only [Act.put,List.setIfInBounds_toArray,List.set_cons_zero,List.set_cons_succ,i64_w,i32_w];rfl
       refine pz_ 6 41 127 ?_;refine pz_ 7 42 255 ?_;refine pz_ 8 43 511 ?_;refine tz_ 9 44 1023 ?_;refine pz_ 10 45 2047 ?_;refine pz_ 11 46 4095 ?_;refine uz_ 12 47 8191 ?_;refine uz_ 13 48 16383 ?_;refine uz_ 14 49 32767 ?_;refine uz_ 15 50 65535 ?_;refine pz_ 16 51 131071 ?_;refine pz_ 17 52 262143 ?_;refine done_ (done_of HT_.out (by kernel_rfl)) ?_;(try go_wp2);go_meet
       case rel => exact ⟨_,(false),rs_,H',⟨by have:=HJ1.out;first|omega|exact Nat.le_refl _⟩,⟨vk_ BK1001⟩,⟨bg_⟩⟩
      ·rw [if_neg c31] at H;have c31b0:=nb_ c31;have c31b1:=nn_ c31;(try (have c31b1_c26b2 : t1008 = true:=by have e_:=c26b2;rw [c31b1] at e_;revert e_;cases t1008 <;> simp));(try (have c31b1_c26b2 : t1008 = false:=by have e_:=c26b2;rw [c31b1] at e_;revert e_;cases t1008 <;> simp));replace H:=bs_ H;obtain ⟨t1009,A36,H⟩:=H;have H':=am_ H;clear H;(try go_wp2);have n0_:=am_ (blk_drew BK1001.out);have n1_:=am_ (below_drew1 HB.out);clear BK1001;clear HB;have BK1001:=n0_;have HB:=n1_;clear n0_ n1_;refine start_ (n:=18) (S:=fun w' => w'.cell? ⟨gb1001,0,none⟩ = some (.int .i64 a0_0) ∧ w'.cell? ⟨gb1001,1,none⟩ = some (.slice A0_1 l0_1.length c0_1) ∧ w'.cell? ⟨gb1001,2,none⟩ = some (.string a0_2) ∧ w'.cell? ⟨gb1001,3,none⟩ = some (.string a0_3) ∧ w'.cell? ⟨gb1001,4,none⟩ = some (.string a0_4) ∧ w'.cell? ⟨gb1001,5,none⟩ = some (.string a0_5) ∧ w'.cell? ⟨gb1001,6,none⟩ = some (.int .i64 a0_6)) (ds:=[]) (bz 18 0) (by kernel_rfl) rfl rfl ⟨(blk_cell BK1001.out 0).trans rfl,(blk_cell BK1001.out 1).trans rfl,(blk_cell BK1001.out 2).trans rfl,(blk_cell BK1001.out 3).trans rfl,(blk_cell BK1001.out 4).trans rfl,(blk_cell BK1001.out 5).trans rfl,(blk_cell BK1001.out 6).trans rfl⟩ (fun hHeld => ?_);refine with_tabW impl_GoodRelabel.tab4 impl_GoodRelabel.bits4 (fun HT_ HW_ => ?_);generalize wc.drew = w37 at BK1001 HB hHeld ⊢;refine pz_ 0 35 1 ?_;refine pz_ 3 38 9 ?_;refine tz_ 4 39 25 ?_;refine pz_ 5 40 57 ?_;refine one_ (i:=1) (N:=some 36) (bz 18 59) rfl rfl (one_of HT_.out (by kernel_rfl)) (by decide) (fun K hK => ?_);refine Kd.R_lit_step (Kd.int .i64) _ 3 ?hg (N:=36) ?hd (xs:=([3,4,8] : List Int)) (inner:=[.int .i64 3,.int .i64 4,.int .i64 8]) (ok:=fun _ => True) (okp:=fun _ => True) ?hr ?hp (fun _ hk => hk) trivial (Below.refl _ _) (Nat.le_refl _) (by simp) ?_;(case hd => rfl);(case hg => rfl);(case hr => first|(go_simp;done)|(go_simp;rfl));(case hp => exact (Reps.one (show Kd.M (Kd.int .i64) _ _ _ 3 [.int .i64 3] from rfl) (Reps.one (show Kd.M (Kd.int .i64) _ _ _ 4 [.int .i64 4] from rfl) (Reps.one (show Kd.M (Kd.int .i64) _ _ _ 8 [.int .i64 8] from rfl) (Reps.none _ _)))));intro v1006 w38 ho39 hb hg_ hnew_;clear hg_ hnew_;(first|rw [← Ny1005.out] at ho39|(simp only [Int.reduceToNat] at ho39;rw [← Ny1005.out] at ho39));have n0_:=am_ (Kd.R_lower ho39 (below_size bg_));have n1_:=am_ (blk_below (g:=gb1001) (vk_ BK1001) hb);have n2_:=am_ (below_step bg_ hb);clear BK1001;clear HB;have HO1007:=n0_;have BK1001:=n1_;have HB:=n2_;clear n0_ n1_ n2_;clear hb ho39;obtain ⟨Ao40,co40,eo40⟩:=Kd.R_slice HO1007.out;(first|subst eo40|(injection eo40 with f1_ f2_ f3_;have f4_:=f1_.symm;have f5_:=f3_.symm;clear f1_ f2_ f3_;subst f4_;subst f5_));refine hK.out _ _ ⟨(blk_cell BK1001.out 0).trans rfl,(blk_cell BK1001.out 1).trans rfl,(blk_cell BK1001.out 2).trans rfl,(blk_cell BK1001.out 3).trans rfl,(blk_cell BK1001.out 4).trans rfl,(blk_cell BK1001.out 5).trans rfl,(blk_cell BK1001.out 6).trans rfl⟩ (fun hHeld => ?_);clear hK K;refine norm_ (a':=?_) ?_ ?_;rotate_left
       ·show Act.put _ (some 36) _ = _;simp only [Act.put,List.setIfInBounds_toArray,List.set_cons_zero,List.set_cons_succ,i64_w,i32_w];rfl
       refine one_ (i:=2) (N:=some 37) (bz 18 63) rfl rfl (one_of HT_.out (by kernel_rfl)) (by decide) (fun K hK => ?_);refine goes_ Tryz.func61 (by kernel_rfl) rfl #[.int .i64 a0_0,.slice Ao40 y1005.length co40] (by rfl) rfl rfl ag_ ?_;(with_reducible refine (impl_isOne.calls kj1 a0_0 _ _ y1005 t1008 _ ?side1 ?side2 A25.out).mono ?_);(case side1 => exact cc_ (Kd.R_reads' HO1007.out).2.2);(case side2 => exact (Kd.R_reads' HO1007.out).2.1);rintro e w' ⟨rfl,⟨nd,rfl⟩⟩;refine ⟨_,rfl,?_⟩;refine hK.out _ _ ⟨(blk_cell BK1001.out 0).trans rfl,(blk_cell BK1001.out 1).trans rfl,(blk_cell BK1001.out 2).trans rfl,(blk_cell BK1001.out 3).trans rfl,(blk_cell BK1001.out 4).trans rfl,(blk_cell BK1001.out 5).trans rfl,(blk_cell BK1001.out 6).trans rfl⟩ (fun hHeld => ?_);clear hK K;refine norm_ (a':=?_) ?_ ?_;rotate_left
       ·show Act.put _ (some 37) _ = _;simp only [Act.put,List.setIfInBounds_toArray,List.set_cons_zero,List.set_cons_succ,i64_w,i32_w];rfl
       refine pz_ 6 41 127 ?_;refine pz_ 7 42 255 ?_;refine pz_ 8 43 511 ?_;refine tz_ 9 44 1023 ?_;refine pz_ 10 45 2047 ?_;refine pz_ 11 46 4095 ?_;refine pz_ 12 47 8191 ?_;refine tz_ 13 48 16383 ?_;refine one_ (i:=14) (N:=some 49) (bz 18 32767) rfl rfl (one_of HT_.out (by kernel_rfl)) (by decide) (fun K hK => ?_);refine goes_ Tryz.func55 (by kernel_rfl) rfl #[.string a0_4] (by rfl) rfl rfl ag_ ?_;(with_reducible refine (impl_isName.calls kj1 a0_4 t1009 _ A36.out).mono ?_);rintro e w' ⟨rfl,⟨nd,rfl⟩⟩;refine ⟨_,rfl,?_⟩;refine hK.out _ _ ⟨(blk_cell BK1001.out 0).trans rfl,(blk_cell BK1001.out 1).trans rfl,(blk_cell BK1001.out 2).trans rfl,(blk_cell BK1001.out 3).trans rfl,(blk_cell BK1001.out 4).trans rfl,(blk_cell BK1001.out 5).trans rfl,(blk_cell BK1001.out 6).trans rfl⟩ (fun hHeld => ?_);clear hK K;refine norm_ (a':=?_) ?_ ?_;rotate_left
       ·show Act.put _ (some 49) _ = _;simp only [Act.put,List.setIfInBounds_toArray,List.set_cons_zero,List.set_cons_succ,i64_w,i32_w];rfl
       refine pz_ 15 50 65535 ?_;refine pz_ 16 51 131071 ?_;refine pz_ 17 52 262143 ?_;refine done_ (done_of HT_.out (by kernel_rfl)) ?_;(try go_wp2);go_meet
       case rel => exact ⟨_,(!t1009),rs_,H',⟨by have:=HJ1.out;first|omega|exact Nat.le_refl _⟩,⟨vk_ BK1001⟩,⟨bg_⟩⟩
    case rest =>
     clear HC24;(try clear c23);obtain ⟨kq,x52_23,rfl,HA,HJ23,BK1001,HB⟩:=hcut
     cases kq with
     | zero => exact absurd HA.out (by simp [impl_GoodRelabel.j1])
     | succ kj23 =>
      have H:=HA.out;clear HA;simp only [impl_GoodRelabel.j1] at H
      by_cases c41 : x52_23 = true
      ·subst c41;replace H:=it_ H;obtain rfl:=si_ H;go_wp2;go_ret;exact ⟨rf_,bg_⟩
      ·replace c41:=Bool.eq_false_iff.mpr c41;subst c41;replace H:=if_ H;have HC42:=am_ H;clear H;go_upto_region 6 with (fail)
       go_cut [67] (fun v67 wc => ∃ (kq : Nat) (x67_41 : Bool),v67 = .bool x67_41 ∧ Aside0 (impl_GoodRelabel.j2 kq a0_0 x67_41 a0_0 l0_1 a0_2 a0_3 a0_4 a0_5 a0_6 = some r) ∧ Aside0 (kq ≤ kj23) ∧ Aside0 (wc.heap[gb1001]? = some (.cells #[.int .i64 a0_0,(.slice A0_1 l0_1.length c0_1),.string a0_2,.string a0_3,.string a0_4,.string a0_5,.int .i64 a0_6] 32 (0,0))) ∧ Aside0 (Below w.heap.size w wc))
       case first =>
        have H:=HC42.out;clear HC42;replace H:=bs_ H;obtain ⟨t1010,A43,H⟩:=H
        by_cases c44 : t1010 = true
        ·subst c44;replace H:=it_ H
         by_cases c45 : a0_5.toList = ([] : List UInt8)
         ·rw [if_pos c45] at H;have c45b0:=eb_ c45;have c45b1:=en_ c45;clear c45;(first|rw [c45b0]|(simp only [i64_w,i32_w];rw [c45b0])|skip);have H':=am_ H;clear H;have hz46:=bk7_ BK1001;go_wp2_with (first|((with_reducible refine gate_callee (f:=62) rfl ?_);refine gl_ 55 Tryz.func62 #[.string a0_5] ?_;(with_reducible refine (impl_isFilling.calls kj23 a0_5 true _ A43.out).mono ?_);rintro e w' ⟨rfl,⟨nd,rfl⟩⟩;refine ⟨_,rfl,?_⟩));go_meet
          case rel => exact ⟨_,(false),rs_,H',⟨by have:=HJ1.out;have:=HJ23.out;first|omega|exact Nat.le_refl _⟩,⟨vk_ BK1001⟩,⟨bg_⟩⟩
         ·rw [if_neg c45] at H;have c45b0:=nb_ c45;have c45b1:=nn_ c45;(first|rw [c45b0]|(simp only [i64_w,i32_w];rw [c45b0])|skip);obtain ⟨y1011,hy1011⟩ : ∃ y_ : List Int,y_ = (([3,5] : List Int)):=⟨_,rfl⟩;replace H : ((impl_isOne.f kj23 a0_0 y1011).bind fun t1014 => (impl_GoodRelabel.j2 kj23 a0_0 (!t1014) a0_0 l0_1 a0_2 a0_3 a0_4 a0_5 a0_6)) = some r:=by first|(rw [hy1011];with_reducible exact H)|(have H2_:=(Option.bind_some _ _).symm.trans H;rw [hy1011];with_reducible exact H2_)|(have H2_:=(Option.bind_some _ _).symm.trans H;with_reducible exact H2_)|with_reducible exact H|(rw [hy1011];exact H)|exact H
          have Ny1011:=am_ hy1011;clear hy1011;replace H:=bs_ H;obtain ⟨t1014,A47,H⟩:=H;have H':=am_ H;clear H;have hz48:=bk7_ BK1001;go_wp2_with (first|((with_reducible refine gate_callee (f:=62) rfl ?_);refine gl_ 55 Tryz.func62 #[.string a0_5] ?_;(with_reducible refine (impl_isFilling.calls kj23 a0_5 true _ A43.out).mono ?_);rintro e w' ⟨rfl,⟨nd,rfl⟩⟩;refine ⟨_,rfl,?_⟩)|((with_reducible refine gate_dst (N:=63) rfl ?_);(try (refine gate_guard (by rfl) ?_;dsimp only));refine Kd.R_lit (Kd.int .i64) _ 3 ?hg (N:=63) ?hd (xs:=([3,5] : List Int)) (inner:=[.int .i64 3,.int .i64 5]) (ok:=fun _ => True) (okp:=fun _ => True) ?hr ?hp (fun _ hk => hk) trivial (Below.refl _ _) (Nat.le_refl _) (by simp) ?_;(case hd => rfl);(case hg => rfl);(case hr => first|(go_simp;done)|(go_simp;rfl));(case hp => exact (Reps.one (show Kd.M (Kd.int .i64) _ _ _ 3 [.int .i64 3] from rfl) (Reps.one (show Kd.M (Kd.int .i64) _ _ _ 5 [.int .i64 5] from rfl) (Reps.none _ _))));intro v1012 w49 ho50 hb hg_ hnew_;clear hg_ hnew_;(first|rw [← Ny1011.out] at ho50|(simp only [Int.reduceToNat] at ho50;rw [← Ny1011.out] at ho50));have HO1013:=am_ (Kd.R_lower ho50 (below_size bg_));replace BK1001:=vb_ BK1001 hb;replace HB:=am_ (below_step bg_ hb);clear hb ho50;obtain ⟨Ao51,co51,eo51⟩:=Kd.R_slice HO1013.out;subst eo51)|(go_at_call 61;(with_reducible refine (impl_isOne.calls kj23 a0_0 _ _ y1011 t1014 _ ?side1 ?side2 A47.out).mono ?_);(case side1 => exact cc_ (Kd.R_reads' HO1013.out).2.2);(case side2 => exact (Kd.R_reads' HO1013.out).2.1);rintro e w' ⟨rfl,⟨nd,rfl⟩⟩));go_meet
          case rel => exact ⟨_,(!t1014),rs_,H',⟨by have:=HJ1.out;have:=HJ23.out;first|omega|exact Nat.le_refl _⟩,⟨vk_ BK1001⟩,⟨bg_⟩⟩
        ·replace c44:=Bool.eq_false_iff.mpr c44;subst c44;replace H:=if_ H;have H':=am_ H;clear H;have hz52:=bk7_ BK1001;go_wp2_with (first|((with_reducible refine gate_callee (f:=62) rfl ?_);refine gl_ 55 Tryz.func62 #[.string a0_5] ?_;(with_reducible refine (impl_isFilling.calls kj23 a0_5 false _ A43.out).mono ?_);rintro e w' ⟨rfl,⟨nd,rfl⟩⟩;refine ⟨_,rfl,?_⟩));go_meet
         case rel => exact ⟨_,(true),rs_,H',⟨by have:=HJ1.out;have:=HJ23.out;first|omega|exact Nat.le_refl _⟩,⟨vk_ BK1001⟩,⟨bg_⟩⟩
       case rest =>
        clear HC42;(try clear c41);obtain ⟨kq,x67_41,rfl,HA,HJ41,BK1001,HB⟩:=hcut
        cases kq with
        | zero => exact absurd HA.out (by simp [impl_GoodRelabel.j2])
        | succ kj41 =>
         have H:=HA.out;clear HA;simp only [impl_GoodRelabel.j2] at H
         by_cases c53 : x67_41 = true
         ·subst c53;replace H:=it_ H;obtain rfl:=si_ H;go_wp2;go_ret;exact ⟨rf_,bg_⟩
         ·replace c53:=Bool.eq_false_iff.mpr c53;subst c53;replace H:=if_ H;have HC54:=am_ H;clear H;go_upto_region 8 with (fail)
          go_cut [88] (fun v88 wc => ∃ (kq : Nat) (x88_53 : Bool),v88 = .bool x88_53 ∧ Aside0 (impl_GoodRelabel.j3 kq a0_0 x88_53 a0_0 l0_1 a0_2 a0_3 a0_4 a0_5 a0_6 = some r) ∧ Aside0 (kq ≤ kj41) ∧ Aside0 (wc.heap[gb1001]? = some (.cells #[.int .i64 a0_0,(.slice A0_1 l0_1.length c0_1),.string a0_2,.string a0_3,.string a0_4,.string a0_5,.int .i64 a0_6] 32 (0,0))) ∧ Aside0 (Below w.heap.size w wc))
          case first =>
           have H:=HC54.out;clear HC54
           by_cases c55 : a0_0 = 4
           ·rw [if_pos c55] at H;have c55b0:=eb_ c55;have c55b1:=en_ c55;clear c55;(first|rw [c55b0]|(simp only [i64_w,i32_w];rw [c55b0])|skip)
            by_cases c56 : a0_6 < 1
            ·rw [if_pos c56] at H;have c56b0:=decide_eq_true c56;clear c56;have H':=am_ H;clear H;have hz57:=bk7_ BK1001;go_wp2;go_meet
             case rel => exact ⟨_,(true),rs_,H',⟨by have:=HJ1.out;have:=HJ23.out;have:=HJ41.out;first|omega|exact Nat.le_refl _⟩,⟨vk_ BK1001⟩,⟨bg_⟩⟩
            ·rw [if_neg c56] at H;have c56b0:=decide_eq_false c56;clear c56
             by_cases c58 : a0_6 > 1000
             ·rw [if_pos c58] at H;have c58b0:=dg_ c58;clear c58;have H':=am_ H;clear H;have hz59:=bk7_ BK1001;go_wp2;go_meet
              case rel => exact ⟨_,(true),rs_,H',⟨by have:=HJ1.out;have:=HJ23.out;have:=HJ41.out;first|omega|exact Nat.le_refl _⟩,⟨vk_ BK1001⟩,⟨bg_⟩⟩
             ·rw [if_neg c58] at H;have c58b0:=df_ c58;clear c58;have H':=am_ H;clear H;have hz60:=bk7_ BK1001;go_wp2;go_meet
              case rel => exact ⟨_,(false),rs_,H',⟨by have:=HJ1.out;have:=HJ23.out;have:=HJ41.out;first|omega|exact Nat.le_refl _⟩,⟨vk_ BK1001⟩,⟨bg_⟩⟩
           ·rw [if_neg c55] at H;have c55b0:=nb_ c55;have c55b1:=nn_ c55;(first|rw [c55b0]|(simp only [i64_w,i32_w];rw [c55b0])|skip);have H':=am_ H;clear H;have hz61:=bk7_ BK1001;go_wp2;go_meet
            case rel => exact ⟨_,((a0_6 != 0)),rs_,H',⟨by have:=HJ1.out;have:=HJ23.out;have:=HJ41.out;first|omega|exact Nat.le_refl _⟩,⟨vk_ BK1001⟩,⟨bg_⟩⟩
          case rest =>
           clear HC54;(try clear c53);obtain ⟨kq,x88_53,rfl,HA,HJ53,BK1001,HB⟩:=hcut
           cases kq with
           | zero => exact absurd HA.out (by simp [impl_GoodRelabel.j3])
           | succ kj53 =>
            have H:=HA.out;clear HA;simp only [impl_GoodRelabel.j3] at H
            by_cases c62 : x88_53 = true
            ·subst c62;replace H:=it_ H;obtain rfl:=si_ H;go_wp2;go_ret;exact ⟨rf_,bg_⟩
            ·replace c62:=Bool.eq_false_iff.mpr c62;subst c62;replace H:=if_ H;obtain ⟨y1015,hy1015⟩ : ∃ y_ : List Int,y_ = (([5,6,7] : List Int)):=⟨_,rfl⟩;replace H : ((impl_isOne.f kj53 a0_0 y1015).bind fun t1018 => (if t1018 = true then (if (l0_1.length : Int) > 0 then (some false) else (if a0_2.toList = ([] : List UInt8) then (if a0_3.toList = ([] : List UInt8) then (some true) else ((impl_isOne.f kj53 a0_0 (([4,8] : List Int))).bind fun t1022 => (some (!t1022)))) else (some false))) else (if a0_3.toList = ([] : List UInt8) then (some true) else ((impl_isOne.f kj53 a0_0 (([4,8] : List Int))).bind fun t1026 => (some (!t1026)))))) = some r:=by first|(rw [hy1015];with_reducible exact H)|(have H2_:=(Option.bind_some _ _).symm.trans H;rw [hy1015];with_reducible exact H2_)|(have H2_:=(Option.bind_some _ _).symm.trans H;with_reducible exact H2_)|with_reducible exact H|(rw [hy1015];exact H)|exact H
             have Ny1015:=am_ hy1015;clear hy1015;replace H:=bs_ H;obtain ⟨t1018,A63,H⟩:=H
             by_cases c64 : t1018 = true
             ·subst c64;replace H:=it_ H
              by_cases c65 : (l0_1.length : Int) > 0
              ·rw [if_pos c65] at H;have c65b0:=dg_ c65;have c65b1 : decide (0 < l0_1.length) = true:=decide_eq_true (by omega);have c65b2 : 0 < l0_1.length:=by omega
               clear c65;obtain rfl:=si_ H;go_wp2_with (first|((with_reducible refine gate_dst (N:=90) rfl ?_);(try (refine gate_guard (by rfl) ?_;dsimp only));refine Kd.R_lit (Kd.int .i64) _ 3 ?hg (N:=90) ?hd (xs:=([5,6,7] : List Int)) (inner:=[.int .i64 5,.int .i64 6,.int .i64 7]) (ok:=fun _ => True) (okp:=fun _ => True) ?hr ?hp (fun _ hk => hk) trivial (Below.refl _ _) (Nat.le_refl _) (by simp) ?_;(case hd => rfl);(case hg => rfl);(case hr => first|(go_simp;done)|(go_simp;rfl));(case hp => exact (Reps.one (show Kd.M (Kd.int .i64) _ _ _ 5 [.int .i64 5] from rfl) (Reps.one (show Kd.M (Kd.int .i64) _ _ _ 6 [.int .i64 6] from rfl) (Reps.one (show Kd.M (Kd.int .i64) _ _ _ 7 [.int .i64 7] from rfl) (Reps.none _ _)))));intro v1016 w66 ho67 hb hg_ hnew_;clear hg_ hnew_;(first|rw [← Ny1015.out] at ho67|(simp only [Int.reduceToNat] at ho67;rw [← Ny1015.out] at ho67));have HO1017:=am_ (Kd.R_lower ho67 (below_size bg_));replace BK1001:=vb_ BK1001 hb;replace HB:=am_ (below_step bg_ hb);clear hb ho67;obtain ⟨Ao68,co68,eo68⟩:=Kd.R_slice HO1017.out;subst eo68)|((with_reducible refine gate_callee (f:=61) rfl ?_);refine gl_ 91 Tryz.func61 #[.int .i64 a0_0,.slice Ao68 y1015.length co68] ?_;(with_reducible refine (impl_isOne.calls kj53 a0_0 _ _ y1015 true _ ?side1 ?side2 A63.out).mono ?_);(case side1 => exact cc_ (Kd.R_reads' HO1017.out).2.2);(case side2 => exact (Kd.R_reads' HO1017.out).2.1);rintro e w' ⟨rfl,⟨nd,rfl⟩⟩;refine ⟨_,rfl,?_⟩;have hz69:=bk7_ BK1001));go_ret;exact ⟨rf_,bg_⟩
              ·rw [if_neg c65] at H;have c65b0:=df_ c65;have c65b1 : decide (0 < l0_1.length) = false:=decide_eq_false (by omega);have c65b2 : ¬ 0 < l0_1.length:=by omega
               clear c65
               by_cases c70 : a0_2.toList = ([] : List UInt8)
               ·rw [if_pos c70] at H;have c70b0:=eb_ c70;have c70b1:=en_ c70;clear c70
                by_cases c71 : a0_3.toList = ([] : List UInt8)
                ·rw [if_pos c71] at H;have c71b0:=eb_ c71;have c71b1:=en_ c71;clear c71;obtain rfl:=si_ H;go_wp2_with (first|((with_reducible refine gate_dst (N:=90) rfl ?_);(try (refine gate_guard (by rfl) ?_;dsimp only));refine Kd.R_lit (Kd.int .i64) _ 3 ?hg (N:=90) ?hd (xs:=([5,6,7] : List Int)) (inner:=[.int .i64 5,.int .i64 6,.int .i64 7]) (ok:=fun _ => True) (okp:=fun _ => True) ?hr ?hp (fun _ hk => hk) trivial (Below.refl _ _) (Nat.le_refl _) (by simp) ?_;(case hd => rfl);(case hg => rfl);(case hr => first|(go_simp;done)|(go_simp;rfl));(case hp => exact (Reps.one (show Kd.M (Kd.int .i64) _ _ _ 5 [.int .i64 5] from rfl) (Reps.one (show Kd.M (Kd.int .i64) _ _ _ 6 [.int .i64 6] from rfl) (Reps.one (show Kd.M (Kd.int .i64) _ _ _ 7 [.int .i64 7] from rfl) (Reps.none _ _)))));intro v1016 w72 ho73 hb hg_ hnew_;clear hg_ hnew_;(first|rw [← Ny1015.out] at ho73|(simp only [Int.reduceToNat] at ho73;rw [← Ny1015.out] at ho73));have HO1017:=am_ (Kd.R_lower ho73 (below_size bg_));replace BK1001:=vb_ BK1001 hb;replace HB:=am_ (below_step bg_ hb);clear hb ho73;obtain ⟨Ao74,co74,eo74⟩:=Kd.R_slice HO1017.out;subst eo74)|((with_reducible refine gate_callee (f:=61) rfl ?_);refine gl_ 91 Tryz.func61 #[.int .i64 a0_0,.slice Ao74 y1015.length co74] ?_;(with_reducible refine (impl_isOne.calls kj53 a0_0 _ _ y1015 true _ ?side1 ?side2 A63.out).mono ?_);(case side1 => exact cc_ (Kd.R_reads' HO1017.out).2.2);(case side2 => exact (Kd.R_reads' HO1017.out).2.1);rintro e w' ⟨rfl,⟨nd,rfl⟩⟩;refine ⟨_,rfl,?_⟩;have hz75:=bk7_ BK1001));go_ret;exact ⟨rf_,bg_⟩
                ·rw [if_neg c71] at H;have c71b0:=nb_ c71;have c71b1:=nn_ c71;obtain ⟨y1019,hy1019⟩ : ∃ y_ : List Int,y_ = (([4,8] : List Int)):=⟨_,rfl⟩;replace H : ((impl_isOne.f kj53 a0_0 y1019).bind fun t1022 => (some (!t1022))) = some r:=by first|(rw [hy1019];with_reducible exact H)|(have H2_:=(Option.bind_some _ _).symm.trans H;rw [hy1019];with_reducible exact H2_)|(have H2_:=(Option.bind_some _ _).symm.trans H;with_reducible exact H2_)|with_reducible exact H|(rw [hy1019];exact H)|exact H
                 have Ny1019:=am_ hy1019;clear hy1019;replace H:=bs_ H;obtain ⟨t1022,A76,H⟩:=H;obtain rfl:=si_ H;go_wp2_with (first|((with_reducible refine gate_dst (N:=90) rfl ?_);(try (refine gate_guard (by rfl) ?_;dsimp only));refine Kd.R_lit (Kd.int .i64) _ 3 ?hg (N:=90) ?hd (xs:=([5,6,7] : List Int)) (inner:=[.int .i64 5,.int .i64 6,.int .i64 7]) (ok:=fun _ => True) (okp:=fun _ => True) ?hr ?hp (fun _ hk => hk) trivial (Below.refl _ _) (Nat.le_refl _) (by simp) ?_;(case hd => rfl);(case hg => rfl);(case hr => first|(go_simp;done)|(go_simp;rfl));(case hp => exact (Reps.one (show Kd.M (Kd.int .i64) _ _ _ 5 [.int .i64 5] from rfl) (Reps.one (show Kd.M (Kd.int .i64) _ _ _ 6 [.int .i64 6] from rfl) (Reps.one (show Kd.M (Kd.int .i64) _ _ _ 7 [.int .i64 7] from rfl) (Reps.none _ _)))));intro v1016 w77 ho78 hb hg_ hnew_;clear hg_ hnew_;(first|rw [← Ny1015.out] at ho78|(simp only [Int.reduceToNat] at ho78;rw [← Ny1015.out] at ho78));have HO1017:=am_ (Kd.R_lower ho78 (below_size bg_));replace BK1001:=vb_ BK1001 hb;replace HB:=am_ (below_step bg_ hb);clear hb ho78;obtain ⟨Ao79,co79,eo79⟩:=Kd.R_slice HO1017.out;subst eo79)|((with_reducible refine gate_callee (f:=61) rfl ?_);refine gl_ 91 Tryz.func61 #[.int .i64 a0_0,.slice Ao79 y1015.length co79] ?_;(with_reducible refine (impl_isOne.calls kj53 a0_0 _ _ y1015 true _ ?side1 ?side2 A63.out).mono ?_);(case side1 => exact cc_ (Kd.R_reads' HO1017.out).2.2);(case side2 => exact (Kd.R_reads' HO1017.out).2.1);rintro e w' ⟨rfl,⟨nd,rfl⟩⟩;refine ⟨_,rfl,?_⟩;have hz80:=bk7_ BK1001)|((with_reducible refine gate_dst (N:=108) rfl ?_);(try (refine gate_guard (by rfl) ?_;dsimp only));refine Kd.R_lit (Kd.int .i64) _ 3 ?hg (N:=108) ?hd (xs:=([4,8] : List Int)) (inner:=[.int .i64 4,.int .i64 8]) (ok:=fun _ => True) (okp:=fun _ => True) ?hr ?hp (fun _ hk => hk) trivial (Below.refl _ _) (Nat.le_refl _) (by simp) ?_;(case hd => rfl);(case hg => rfl);(case hr => first|(go_simp;done)|(go_simp;rfl));(case hp => exact (Reps.one (show Kd.M (Kd.int .i64) _ _ _ 4 [.int .i64 4] from rfl) (Reps.one (show Kd.M (Kd.int .i64) _ _ _ 8 [.int .i64 8] from rfl) (Reps.none _ _))));intro v1020 w81 ho82 hb hg_ hnew_;clear hg_ hnew_;(first|rw [← Ny1019.out] at ho82|(simp only [Int.reduceToNat] at ho82;rw [← Ny1019.out] at ho82));have HO1021:=am_ (Kd.R_lower (Kd.R_new' ho82 (Kd.R_lt (ro_ HO1017))) (below_size bg_));replace HO1017:=am_ (Kd.R_elder' (ro_ HO1017) (Kd.R_base ho82) hb);replace BK1001:=vb_ BK1001 hb;replace HB:=am_ (below_step bg_ hb);clear hb ho82;obtain ⟨Ao83,co83,eo83⟩:=Kd.R_slice HO1021.out;subst eo83)|(go_at_call 61;(with_reducible refine (impl_isOne.calls kj53 a0_0 _ _ y1019 t1022 _ ?side1 ?side2 A76.out).mono ?_);(case side1 => exact cc_ (Kd.R_reads' HO1021.out).2.2);(case side2 => exact (Kd.R_reads' HO1021.out).2.1);rintro e w' ⟨rfl,⟨nd,rfl⟩⟩));go_ret;exact ⟨rf_,bg_⟩
               ·rw [if_neg c70] at H;have c70b0:=nb_ c70;have c70b1:=nn_ c70;obtain rfl:=si_ H;go_wp2_with (first|((with_reducible refine gate_dst (N:=90) rfl ?_);(try (refine gate_guard (by rfl) ?_;dsimp only));refine Kd.R_lit (Kd.int .i64) _ 3 ?hg (N:=90) ?hd (xs:=([5,6,7] : List Int)) (inner:=[.int .i64 5,.int .i64 6,.int .i64 7]) (ok:=fun _ => True) (okp:=fun _ => True) ?hr ?hp (fun _ hk => hk) trivial (Below.refl _ _) (Nat.le_refl _) (by simp) ?_;(case hd => rfl);(case hg => rfl);(case hr => first|(go_simp;done)|(go_simp;rfl));(case hp => exact (Reps.one (show Kd.M (Kd.int .i64) _ _ _ 5 [.int .i64 5] from rfl) (Reps.one (show Kd.M (Kd.int .i64) _ _ _ 6 [.int .i64 6] from rfl) (Reps.one (show Kd.M (Kd.int .i64) _ _ _ 7 [.int .i64 7] from rfl) (Reps.none _ _)))));intro v1016 w84 ho85 hb hg_ hnew_;clear hg_ hnew_;(first|rw [← Ny1015.out] at ho85|(simp only [Int.reduceToNat] at ho85;rw [← Ny1015.out] at ho85));have HO1017:=am_ (Kd.R_lower ho85 (below_size bg_));replace BK1001:=vb_ BK1001 hb;replace HB:=am_ (below_step bg_ hb);clear hb ho85;obtain ⟨Ao86,co86,eo86⟩:=Kd.R_slice HO1017.out;subst eo86)|((with_reducible refine gate_callee (f:=61) rfl ?_);refine gl_ 91 Tryz.func61 #[.int .i64 a0_0,.slice Ao86 y1015.length co86] ?_;(with_reducible refine (impl_isOne.calls kj53 a0_0 _ _ y1015 true _ ?side1 ?side2 A63.out).mono ?_);(case side1 => exact cc_ (Kd.R_reads' HO1017.out).2.2);(case side2 => exact (Kd.R_reads' HO1017.out).2.1);rintro e w' ⟨rfl,⟨nd,rfl⟩⟩;refine ⟨_,rfl,?_⟩;have hz87:=bk7_ BK1001));go_ret;exact ⟨rf_,bg_⟩
             ·replace c64:=Bool.eq_false_iff.mpr c64;subst c64;replace H:=if_ H
              by_cases c88 : a0_3.toList = ([] : List UInt8)
              ·rw [if_pos c88] at H;have c88b0:=eb_ c88;have c88b1:=en_ c88;clear c88;obtain rfl:=si_ H;go_wp2_with (first|((with_reducible refine gate_dst (N:=90) rfl ?_);(try (refine gate_guard (by rfl) ?_;dsimp only));refine Kd.R_lit (Kd.int .i64) _ 3 ?hg (N:=90) ?hd (xs:=([5,6,7] : List Int)) (inner:=[.int .i64 5,.int .i64 6,.int .i64 7]) (ok:=fun _ => True) (okp:=fun _ => True) ?hr ?hp (fun _ hk => hk) trivial (Below.refl _ _) (Nat.le_refl _) (by simp) ?_;(case hd => rfl);(case hg => rfl);(case hr => first|(go_simp;done)|(go_simp;rfl));(case hp => exact (Reps.one (show Kd.M (Kd.int .i64) _ _ _ 5 [.int .i64 5] from rfl) (Reps.one (show Kd.M (Kd.int .i64) _ _ _ 6 [.int .i64 6] from rfl) (Reps.one (show Kd.M (Kd.int .i64) _ _ _ 7 [.int .i64 7] from rfl) (Reps.none _ _)))));intro v1016 w89 ho90 hb hg_ hnew_;clear hg_ hnew_;(first|rw [← Ny1015.out] at ho90|(simp only [Int.reduceToNat] at ho90;rw [← Ny1015.out] at ho90));have HO1017:=am_ (Kd.R_lower ho90 (below_size bg_));replace BK1001:=vb_ BK1001 hb;replace HB:=am_ (below_step bg_ hb);clear hb ho90;obtain ⟨Ao91,co91,eo91⟩:=Kd.R_slice HO1017.out;subst eo91)|((with_reducible refine gate_callee (f:=61) rfl ?_);refine gl_ 91 Tryz.func61 #[.int .i64 a0_0,.slice Ao91 y1015.length co91] ?_;(with_reducible refine (impl_isOne.calls kj53 a0_0 _ _ y1015 false _ ?side1 ?side2 A63.out).mono ?_);(case side1 => exact cc_ (Kd.R_reads' HO1017.out).2.2);(case side2 => exact (Kd.R_reads' HO1017.out).2.1);rintro e w' ⟨rfl,⟨nd,rfl⟩⟩;refine ⟨_,rfl,?_⟩;have hz92:=bk7_ BK1001));go_ret;exact ⟨rf_,bg_⟩
              ·rw [if_neg c88] at H;have c88b0:=nb_ c88;have c88b1:=nn_ c88;obtain ⟨y1023,hy1023⟩ : ∃ y_ : List Int,y_ = (([4,8] : List Int)):=⟨_,rfl⟩;replace H : ((impl_isOne.f kj53 a0_0 y1023).bind fun t1026 => (some (!t1026))) = some r:=by first|(rw [hy1023];with_reducible exact H)|(have H2_:=(Option.bind_some _ _).symm.trans H;rw [hy1023];with_reducible exact H2_)|(have H2_:=(Option.bind_some _ _).symm.trans H;with_reducible exact H2_)|with_reducible exact H|(rw [hy1023];exact H)|exact H
               have Ny1023:=am_ hy1023;clear hy1023;replace H:=bs_ H;obtain ⟨t1026,A93,H⟩:=H;obtain rfl:=si_ H;go_wp2_with (first|((with_reducible refine gate_dst (N:=90) rfl ?_);(try (refine gate_guard (by rfl) ?_;dsimp only));refine Kd.R_lit (Kd.int .i64) _ 3 ?hg (N:=90) ?hd (xs:=([5,6,7] : List Int)) (inner:=[.int .i64 5,.int .i64 6,.int .i64 7]) (ok:=fun _ => True) (okp:=fun _ => True) ?hr ?hp (fun _ hk => hk) trivial (Below.refl _ _) (Nat.le_refl _) (by simp) ?_;(case hd => rfl);(case hg => rfl);(case hr => first|(go_simp;done)|(go_simp;rfl));(case hp => exact (Reps.one (show Kd.M (Kd.int .i64) _ _ _ 5 [.int .i64 5] from rfl) (Reps.one (show Kd.M (Kd.int .i64) _ _ _ 6 [.int .i64 6] from rfl) (Reps.one (show Kd.M (Kd.int .i64) _ _ _ 7 [.int .i64 7] from rfl) (Reps.none _ _)))));intro v1016 w94 ho95 hb hg_ hnew_;clear hg_ hnew_;(first|rw [← Ny1015.out] at ho95|(simp only [Int.reduceToNat] at ho95;rw [← Ny1015.out] at ho95));have HO1017:=am_ (Kd.R_lower ho95 (below_size bg_));replace BK1001:=vb_ BK1001 hb;replace HB:=am_ (below_step bg_ hb);clear hb ho95;obtain ⟨Ao96,co96,eo96⟩:=Kd.R_slice HO1017.out;subst eo96)|((with_reducible refine gate_callee (f:=61) rfl ?_);refine gl_ 91 Tryz.func61 #[.int .i64 a0_0,.slice Ao96 y1015.length co96] ?_;(with_reducible refine (impl_isOne.calls kj53 a0_0 _ _ y1015 false _ ?side1 ?side2 A63.out).mono ?_);(case side1 => exact cc_ (Kd.R_reads' HO1017.out).2.2);(case side2 => exact (Kd.R_reads' HO1017.out).2.1);rintro e w' ⟨rfl,⟨nd,rfl⟩⟩;refine ⟨_,rfl,?_⟩;have hz97:=bk7_ BK1001)|((with_reducible refine gate_dst (N:=108) rfl ?_);(try (refine gate_guard (by rfl) ?_;dsimp only));refine Kd.R_lit (Kd.int .i64) _ 3 ?hg (N:=108) ?hd (xs:=([4,8] : List Int)) (inner:=[.int .i64 4,.int .i64 8]) (ok:=fun _ => True) (okp:=fun _ => True) ?hr ?hp (fun _ hk => hk) trivial (Below.refl _ _) (Nat.le_refl _) (by simp) ?_;(case hd => rfl);(case hg => rfl);(case hr => first|(go_simp;done)|(go_simp;rfl));(case hp => exact (Reps.one (show Kd.M (Kd.int .i64) _ _ _ 4 [.int .i64 4] from rfl) (Reps.one (show Kd.M (Kd.int .i64) _ _ _ 8 [.int .i64 8] from rfl) (Reps.none _ _))));intro v1024 w98 ho99 hb hg_ hnew_;clear hg_ hnew_;(first|rw [← Ny1023.out] at ho99|(simp only [Int.reduceToNat] at ho99;rw [← Ny1023.out] at ho99));have HO1025:=am_ (Kd.R_lower (Kd.R_new' ho99 (Kd.R_lt (ro_ HO1017))) (below_size bg_));replace HO1017:=am_ (Kd.R_elder' (ro_ HO1017) (Kd.R_base ho99) hb);replace BK1001:=vb_ BK1001 hb;replace HB:=am_ (below_step bg_ hb);clear hb ho99;obtain ⟨Ao100,co100,eo100⟩:=Kd.R_slice HO1025.out;subst eo100)|(go_at_call 61;(with_reducible refine (impl_isOne.calls kj53 a0_0 _ _ y1023 t1026 _ ?side1 ?side2 A93.out).mono ?_);(case side1 => exact cc_ (Kd.R_reads' HO1025.out).2.2);(case side2 => exact (Kd.R_reads' HO1025.out).2.1);rintro e w' ⟨rfl,⟨nd,rfl⟩⟩));go_ret;exact ⟨rf_,bg_⟩
def impl_Label_40.f (l0 : List (S53)) : Option (List (S53)):=if l0.length ≤ 4398046510976 then some l0 else none
theorem impl_Label_40.calls (A0 : Option Addr) (c0 : Nat) (l0 : List (S53)) (r : List (S53)) (w : World) (hr0 : Kd.C k53 w A0 l0.length l0) (hc0 : l0.length ≤ c0) (h : impl_Label_40.f l0 = some r) :
  Calls Tryz.prog 40 #[.slice A0 l0.length c0] w fun e w' => ∃ v0_ : Value,e = .returned (v0_) ∧ Kd.R k53 53 w' w.heap.size (fun _ => True) v0_ r ∧ Below w.heap.size w w':=by
 have HR0:=am_ hr0
 have HC0:=am_ hc0
 clear hr0 hc0
 have HB:=am_ (Below.refl w.heap.size w)
 unfold impl_Label_40.f at h
 split at h
 ·rename_i hlim
  obtain rfl:=Option.some.inj h
  have HL:=am_ hlim
  clear hlim
  cases A0 with
  | none =>
   have hl : l0 = []:=by
    rcases Nat.eq_zero_or_pos l0.length with h0|h0
    ·exact List.eq_nil_of_length_eq_zero h0
    ·obtain ⟨ad,h1,_⟩:=HR0.out.2.2 h0
     cases h1
   subst hl
   have hnil : ∀ W : World,(binOp .eql 28 (.slice none 0 c0) (.slice none 0 0)).run Tryz.prog W = .ok (.bool true) W:=fun W => Go.Lib.run_eql_slice_nil W 28 53 none 0 c0 0 0 Tryz.underlying28
   go_enter Tryz.func40,Tryz.ntmps40
   go_wp2
   go_ret
   exact ⟨_,rfl,Kd.R_nil _ _ _ _ _,HB.out⟩
  | some a =>
   have hnil : ∀ W : World,(binOp .eql 28 (.slice (some a) l0.length c0) (.slice none 0 0)).run Tryz.prog W = .ok (.bool false) W:=fun W => Go.Lib.run_eql_slice_nil W 28 53 (some a) l0.length c0 0 0 Tryz.underlying28
   go_enter Tryz.func40,Tryz.ntmps40
   go_wp2_with (first|((with_reducible refine gate_dst (N:=5) rfl ?_);refine Kd.R_lit k53 _ 53 ?hg (N:=5) ?hd (xs:=([] : List (S53))) (inner:=[]) (ok:=fun _ => True) (okp:=fun _ => True) ?hr ?hp (fun _ hk => hk) trivial (Below.refl _ _) (Nat.le_refl _) (by simp) ?_;(case hd => rfl);(case hg => rfl);(case hr => first|(go_simp;done)|(go_simp;rfl));(case hp => exact Reps.none _ _);intro v5 w5 ho5 hb5 hg_ hnew_;have HO5:=am_ (Kd.R_lower ho5 (below_size bl_));have n1_:=am_ (below_step bl_ hb5);clear HB;have HB:=n1_;clear n1_ hb5 ho5 hg_ hnew_)|(at_builtin;refine Kd.R_append_rows k53 (w0:=w) w.heap.size rfl (.tmp 5) (.tmp 6) 28 53 (.agg #[(.string ⟨#[]⟩),(.string ⟨#[]⟩)]) 32 rfl Tryz.underlying28 info53 rfl (by decide) (by omega) v5 ([] : List (S53)) l0 (some a) _ _ (fun _ => True) (fun _ => False) rfl rfl ?aO ?aR (fun _ _ h => h) (fun _ h => h.elim) ?aF ?aB ?aS ?aL ?_;(case aR => exact Kd.C_below HR0.out HB.out);(case aB => exact bl_);(case aF => exact (fun _ _ => trivial));(case aO => exact HO5.out);(case aS => exact (below_size bl_));(case aL => have:=HL.out;simp only [List.length_nil];omega);intro v7 w7 ho hb hg hat;have HO7:=am_ ho;clear HB;have HB:=am_ hb;clear ho hb hg hat))
   go_ret
   exact ⟨_,rfl,HO7.out,HB.out⟩
 ·cases h
def impl_valueOf.l0 : Nat → ByteArray → List (S53) → Int → Int → Option (ByteArray)
 | 0,_,_,_,_ => none
 | k + 1,x1,x7,x8,x9 => if x9 < x8 then (if 0 ≤ x9 then (if x9 < (x7.length : Int) then (if ((rd_T53 x7 x9).f0).toList = x1.toList then (some ((rd_T53 x7 x9).f1)) else (impl_valueOf.l0 k x1 x7 x8 (wrap64 (x9 + 1)))) else (none)) else (none)) else (some (⟨#[]⟩ : ByteArray))
def impl_valueOf.f (k : Nat) (l0 : List (S53)) (a1 : ByteArray) : Option (ByteArray):=impl_valueOf.l0 k a1 l0 (l0.length : Int) 0
theorem impl_valueOf.mono_l : ∀ k,(∀ y0 y1 y2 y3,LeO (impl_valueOf.l0 k y0 y1 y2 y3) (impl_valueOf.l0 (k + 1) y0 y1 y2 y3))
 | 0 => fun _ _ _ _ r h => by simp [impl_valueOf.l0] at h
 | k + 1 => by
  have ih0:=impl_valueOf.mono_l k
  ·intro y0 y1 y2 y3
   unfold impl_valueOf.l0
   repeat' with_reducible first|apply ih0|apply LeO.refl|apply LeO.none|apply LeO.ite|refine LeO.bind ?_ (fun _ => ?_)
theorem impl_valueOf.mono : ∀ a0 a1 k,LeO (impl_valueOf.f k a0 a1) (impl_valueOf.f (k + 1) a0 a1):=by
 intro a0 a1 k
 have ih0:=impl_valueOf.mono_l k
 unfold impl_valueOf.f
 repeat' with_reducible first|apply ih0|apply LeO.refl|apply LeO.none|apply LeO.ite|refine LeO.bind ?_ (fun _ => ?_)
theorem impl_valueOf.calls (k : Nat) (A0 : Option Addr) (c0 : Nat) (l0 : List (S53)) (a1 : ByteArray) (r : ByteArray) (w : World) (hr0 : Kd.C k53 w A0 l0.length l0) (hc0 : l0.length ≤ c0) (h : impl_valueOf.f k l0 a1 = some r) :
  Calls Tryz.prog 63 #[.slice A0 l0.length c0,.string a1] w fun e w' => e = .returned (.string r) ∧ Below w.heap.size w w':=by
 have hu53:=Tryz.underlying53;have HR0:=am_ hr0;have HC0:=am_ hc0;clear hr0 hc0;have HB:=am_ (Below.refl w.heap.size w);have H:=h;clear h;unfold impl_valueOf.f at H;have H':=am_ H;clear H;go_enter Tryz.func63,Tryz.ntmps63;go_wp2
 go_loopg [9] k (fun kq v9 w' => ∃ (x9_1 : Int),v9 = .int .i64 x9_1 ∧ Aside0 (impl_valueOf.l0 kq a1 l0 (l0.length : Int) x9_1 = some r) ∧ Aside0 (kq ≤ k) ∧ Aside0 (Below w.heap.size w w'))
 case atStart => exact ⟨(0),rs_,H',⟨Nat.le_refl _⟩,⟨bl_⟩⟩
 case round =>
  clear H';obtain ⟨x9_1,rfl,HA,HK1,HB⟩:=hrel
  cases gk with
  | zero => exact absurd HA.out (by simp [impl_valueOf.l0])
  | succ k1 =>
   have H:=HA.out;clear HA;simp only [impl_valueOf.l0] at H
   by_cases c3 : x9_1 < (l0.length : Int)
   ·rw [if_pos c3] at H;have c3b0:=decide_eq_true c3;clear c3;replace H:=is_ H;obtain ⟨c4,H⟩:=H;have c4b0:=decide_eq_true c4;clear c4;replace H:=is_ H;obtain ⟨c5,H⟩:=H;have c5b0:=decide_eq_true c5;clear c5
    by_cases c6 : ((rd_T53 l0 x9_1).f0).toList = a1.toList
    ·rw [if_pos c6] at H;have c6b0:=eb_ c6;have c6b1:=en_ c6;clear c6;obtain rfl:=si_ H;have p1001 : 0 ≤ (x9_1 : Int):=od_;have q1001 : x9_1 < (l0.length : Int):=od_;obtain ⟨ad1001,e1001,hx1001_0,hx1001_1⟩:=at_T53 HR0.out x9_1 p1001 q1001
     cases e1001
     replace hx1001_0:=kp_ HB hx1001_0;replace hx1001_1:=kp_ HB hx1001_1;replace p1001:=eq_true p1001;replace q1001:=eq_true q1001;go_wp2_with (first|((with_reducible refine gate_dst (N:=6) rfl ?_);refine bx_ 6 #[.string (⟨#[]⟩ : ByteArray),.string (⟨#[]⟩ : ByteArray)] 53 ?_;intro gb1002 hg w7 hbox hb;have BK1002:=am_ (hbox);have GW1002:=am_ (gs_ hg : w.heap.size ≤ gb1002);replace HB:=am_ (below_step bl_ hb);have GE1002:=GW1002;clear hb hbox hg;have hz8:=bk2_ BK1002));go_ret;exact ⟨rf_,bg_⟩
    ·rw [if_neg c6] at H;have c6b0:=nb_ c6;have c6b1:=nn_ c6;have H':=am_ H;clear H;have p1001 : 0 ≤ (x9_1 : Int):=od_;have q1001 : x9_1 < (l0.length : Int):=od_;obtain ⟨ad1001,e1001,hx1001_0,hx1001_1⟩:=at_T53 HR0.out x9_1 p1001 q1001
     cases e1001
     replace hx1001_0:=kp_ HB hx1001_0;replace hx1001_1:=kp_ HB hx1001_1;replace p1001:=eq_true p1001;replace q1001:=eq_true q1001;go_wp2_with (first|((with_reducible refine gate_dst (N:=6) rfl ?_);refine bx_ 6 #[.string (⟨#[]⟩ : ByteArray),.string (⟨#[]⟩ : ByteArray)] 53 ?_;intro gb1002 hg w9 hbox hb;have BK1002:=am_ (hbox);have GW1002:=am_ (gs_ hg : w.heap.size ≤ gb1002);replace HB:=am_ (below_step bl_ hb);have GE1002:=GW1002;clear hb hbox hg;have hz10:=bk2_ BK1002));go_roundg k1
     case measure => have:=HK1.out;omega
     case rel => exact ⟨(wrap64 (x9_1 + 1)),rs_,H',⟨by have:=HK1.out;omega⟩,⟨bg_⟩⟩
   ·rw [if_neg c3] at H;have c3b0:=decide_eq_false c3;clear c3;obtain rfl:=si_ H;go_wp2;go_ret;exact ⟨rf_,bl_⟩
def strings_Join.f (l0 : List (ByteArray)) (a1 : ByteArray) : Option (ByteArray):=if l0.length ≤ 140737488355328 ∧ (Lib.join (l0.map (·.data.toList)) a1.data.toList).length ≤ 140737488355328 then some ⟨(Lib.join (l0.map (·.data.toList)) a1.data.toList).toArray⟩ else none
theorem strings_Join.calls (A0 : Option Addr) (c0 : Nat) (l0 : List (ByteArray)) (a1 : ByteArray) (r : ByteArray) (w : World) (hr0 : Kd.C (Kd.string) w A0 l0.length l0) (hc0 : l0.length ≤ c0) (h : strings_Join.f l0 a1 = some r) :
  Calls Tryz.prog 64 #[.slice A0 l0.length c0,.string a1] w fun e w' => e = .returned (.string r) ∧ Below w.heap.size w w':=by
 unfold strings_Join.f at h
 split at h
 ·rename_i hl
  obtain rfl:=Option.some.inj h
  rcases Nat.eq_zero_or_pos l0.length with h0|h0
  ·obtain rfl:=List.eq_nil_of_length_eq_zero h0
   exact (Tryz.strings_Join_none A0 c0 a1 w).mono (fun e w' hp => ⟨hp.1,by rw [hp.2];exact Below.refl _ _⟩)
  ·obtain ⟨⟨b,o,s⟩,rfl,h1⟩:=Kd.at_string hr0 0 (by omega) (by omega)
   have hs : s = none:=by
    have h2 : w.cell? ⟨b,o,s⟩ = some (.string (rdOf ByteArray.empty l0 0)):=h1
    unfold World.cell? at h2
    split at h2
    ·split at h2
     ·cases h2
     ·rename_i h3;simpa using h3
    ·cases h2
   subst hs
   have hcell : ∀ (j : Nat) x,l0[j]? = some x → w.cell? ⟨b,o + j,none⟩ = some (.string x):=by
    intro j x hx
    obtain ⟨hj,hx⟩:=List.getElem?_eq_some_iff.1 hx
    obtain ⟨ad',e',h4⟩:=Kd.at_string hr0 (j : Int) (by omega) (by omega)
    cases e'
    rw [show rdOf ByteArray.empty l0 (j : Int) = x from by unfold rdOf;simp [hj,hx],Int.toNat_natCast] at h4
    rw [← h4]
    unfold Addr.add
    by_cases hj0 : j = 0
    ·subst hj0;rfl
    ·rw [if_neg hj0]
   exact (Tryz.strings_Join b o c0 l0 a1 w hcell (World.block_lt_of_cell? w ⟨b,o + 0,none⟩ (hcell 0 _ (List.getElem?_eq_getElem h0))) hl.1 hc0 hl.2).mono (fun e w' hp => hp)
 ·cases h
section
variable {α : Type} {d : Kd α} {e eo base g n cap : Nat} {w : World} {ok : Nat → Prop} {F : List (List α)}
theorem s_row (h : Kd.S (Kd.slice e d) eo w base ok (.slice (some ⟨g,0,none⟩) n cap) F) (i : Int) (l : List α) (h0 : 0 ≤ i) (hi : F[i.toNat]? = some l) (hp : 0 < l.length) : ∃ gi ci,w.cell? ⟨g,i.toNat,none⟩ = some (.slice (some ⟨gi,0,none⟩) l.length ci) ∧ l.length ≤ ci ∧ d.C w (some ⟨gi,0,none⟩) l.length l:=by
  obtain ⟨hil,hl⟩:=List.getElem?_eq_some_iff.1 hi
  have hn:=(Kd.S_reads' h).1
  obtain ⟨oki,c,hcl,hM,hcc,_,_,_⟩:=Kd.S_elem h [] i h0 (by omega)
  obtain ⟨v,rfl,hR⟩:=hM
  rw [List.getD_eq_getElem?_getD,hi,Option.getD_some] at hR
  obtain ⟨gi,ci,rfl,_,_,_⟩:=Kd.R_form hR hp
  have h1:=hcc 0 _ rfl
  rw [Nat.add_zero,show (Kd.slice e d).sz = 1 from rfl,Nat.mul_one] at h1
  obtain ⟨_,h2,h3⟩:=Kd.R_reads' hR
  exact ⟨gi,ci,h1,h2,h3⟩
theorem s_new {v : Value} {l : List α} (hE : d.E = []) (h : Kd.S (Kd.slice e d) eo w base (fun k => True ∧ ¬ some k = v.ownBlock) (.slice (some ⟨g,0,none⟩) n cap) F) (hv : d.R e w base ok v l) (i : Int) (h0 : 0 ≤ i) (h1 : i < n) :
    (∃ u,w.cell? ⟨g,i.toNat,none⟩ = some u) ∧ w.frozen? ⟨g,i.toNat,none⟩ = false ∧ base ≤ g ∧ Kd.S (Kd.slice e d) eo (w.setCell ⟨g,i.toNat,none⟩ v) base (fun _ => True) (.slice (some ⟨g,0,none⟩) n cap) (F.set i.toNat l):=by
  obtain ⟨oki,c,hcl,hM,hcc,hfr,hoki,hH⟩:=Kd.S_elem h [] i h0 h1
  obtain ⟨u,rfl,hR⟩:=hM
  have hc:=hcc 0 u rfl
  rw [Nat.add_zero,show (Kd.slice e d).sz = 1 from rfl,Nat.mul_one] at hc
  have hf:=hfr 0
  rw [Nat.add_zero,show (Kd.slice e d).sz = 1 from rfl,Nat.mul_one] at hf
  obtain ⟨A,cv,hve⟩:=Kd.R_slice hv
  have hs:=(Kd.S_seg (okg:=fun k => some k = v.ownBlock) (ok:=fun _ => True) (okp:=fun k => some k = v.ownBlock) (x':=l) (seg:=[v]) (j:=0) hH h0 h1 (by simp [Kd.slice]) (Kd.M_row (Kd.R_tight hE hv)) (fun k hk => Or.inr hk) (fun k hk => ⟨trivial,fun he => ((Kd.S_R h).1 g rfl).2 (by rw [← he];exact hk)⟩)).1
  rw [Nat.add_zero,show (Kd.slice e d).sz = 1 from rfl,Nat.mul_one] at hs
  exact ⟨⟨u,hc⟩,hf,Kd.S_base h g rfl,hs⟩
end
theorem h_grown {α : Type} {d : Kd α} {e base : Nat} {W w1 : World} {ok oki : Nat → Prop} {v : Value} {xs : List α} {i : Int} {c : List Value} (h : Kd.H d e W base ok v xs i oki c) {row : Option Nat} (hg : W.grownBy w1 row) (hrow : ∀ k,row = some k → oki k) : Kd.H d e w1 base ok v xs i oki c :=
  ⟨h.1,h.2.elim fun f hr => ⟨f,Kd.R_step hr (fun k hk hlt => hg.block k hlt (fun e => hk.2 (hrow k e.symm)))⟩⟩
theorem s_put {α : Type} {enc : α → Value} {h1 : ∀ x,(enc x).oneCell' = true} {e eo base g n cap : Nat} {w : World} {F : List (List α)} (h : Kd.S (Kd.slice e (Kd.scalar enc h1)) eo w base (fun _ => True) (.slice (some ⟨g,0,none⟩) n cap) F) (i j : Int) (l : List α) (h0 : 0 ≤ i) (hi : F[i.toNat]? = some l) (hj0 : 0 ≤ j) (hj : j < l.length) (x : α) :
    ∃ gi ci,w.cell? ⟨g,i.toNat,none⟩ = some (.slice (some ⟨gi,0,none⟩) l.length ci) ∧ (∃ u,w.cell? ⟨gi,j.toNat,none⟩ = some u) ∧ w.frozen? ⟨gi,j.toNat,none⟩ = false ∧ base ≤ gi ∧ (∀ (q : Nat) (y : α),l[q]? = some y → w.cell? ⟨gi,q,none⟩ = some (enc y)) ∧ Kd.S (Kd.slice e (Kd.scalar enc h1)) eo (w.setCell ⟨gi,j.toNat,none⟩ (enc x)) base (fun _ => True) (.slice (some ⟨g,0,none⟩) n cap) (F.set i.toNat (l.set j.toNat x)):=by
  obtain ⟨hil,hl⟩:=List.getElem?_eq_some_iff.1 hi
  have hn:=(Kd.S_reads' h).1
  obtain ⟨oki,c,hcl,hM,hcc,_,_,hH⟩:=Kd.S_elem h [] i h0 (by omega)
  obtain ⟨v,rfl,hR⟩:=hM
  rw [List.getD_eq_getElem?_getD,hi,Option.getD_some] at hR
  obtain ⟨gi,ci,rfl,hb,_,_⟩:=Kd.R_form hR (by omega)
  have h2:=hcc 0 _ rfl
  rw [Nat.add_zero,show (Kd.slice e (Kd.scalar enc h1)).sz = 1 from rfl,Nat.mul_one] at h2
  obtain ⟨h3,h4⟩:=Kd.R_celln x hR j hj0 hj
  obtain ⟨h5,h6⟩:=Kd.R_putg hR j x
  have h7 : (w.setCell ⟨gi,j.toNat,none⟩ (enc x)).heap = (w.setCell ⟨gi,j.toNat,none⟩ (enc x)).heap:=rfl
  refine ⟨gi,ci,h2,⟨_,h3⟩,h4,hb,fun q y hq => ?_,Kd.H_back (h_grown hH h6 (fun k hk => hR.1 k (by rw [← hk];rfl))) (okp:=oki) ?_ (fun _ hk => hk)⟩
  · obtain ⟨hql,hqy⟩:=List.getElem?_eq_some_iff.1 hq
    have h8:=(Kd.R_celln x hR (q : Int) (by omega) (by omega)).1
    rw [Int.toNat_natCast] at h8
    rw [h8,rdOf,Int.toNat_natCast,List.getD_eq_getElem?_getD,hq,Option.getD_some]
  · have h9 : (Kd.scalar enc h1).R e (w.setCell ⟨gi,j.toNat,none⟩ (enc x)) base oki (.slice (some ⟨gi,0,none⟩) (l.set j.toNat x).length ci) (l.set j.toNat x):=by rw [List.length_set];exact h5
    rw [List.length_set] at h9
    exact Kd.M_row h9
theorem s_over {α : Type} {d : Kd α} {e e' base : Nat} {W w1 : World} {ok : Nat → Prop} {u v : Value} {xs : List α} (h : Kd.S d e W base ok u xs) (hty : ∀ k,v.ownBlock = some k → ∃ cells,W.heap[k]? = some (.cells cells e' (0,0))) (ht : ∀ q,q ∈ e :: d.E → q ≠ e') (hg : W.grownBy w1 v.ownBlock) : Kd.S d e w1 base ok u xs:=h.elim fun f hr => ⟨f,Kd.R_over' hr hty ht hg⟩
def starF (g : Nat → Bool) : Nat → Nat → Bool
  | 0,i => g i
  | d + 1,i => g i || starF g d (i + 1)
def nxtF (g : Nat → Bool) : Nat → Nat → Nat
  | 0,i => i
  | d + 1,i => if g i = true then i else nxtF g d (i + 1)
def fitP (s : ByteArray) : List S108 → Nat → Bool
  | [],i => decide (i = s.size)
  | x :: a,i => if x.f2 = true then starF (fitP s a) (s.size - i) i else decide (i < s.size) && ((x.f1 || x.f0 == bt s (i : Int)) && fitP s a (i + 1))
def partP (s : ByteArray) : List S108 → Nat → List ByteArray
  | [],_ => []
  | x :: a,i => if x.f2 = true then s.extract i (nxtF (fitP s a) (s.size - i) i) :: partP s a (nxtF (fitP s a) (s.size - i) i) else partP s a (i + 1)
theorem starF_nxt (g : Nat → Bool) : ∀ (d i : Nat),starF g d i = true → i ≤ nxtF g d i ∧ nxtF g d i ≤ i + d ∧ g (nxtF g d i) = true
  | 0,i,h => ⟨Nat.le_refl _,Nat.le_refl _,h⟩
  | d + 1,i,h => by
    simp only [starF,nxtF] at h ⊢
    by_cases hg : g i = true
    · rw [if_pos hg];exact ⟨Nat.le_refl _,by omega,hg⟩
    · rw [if_neg hg]
      rw [Bool.eq_false_iff.2 hg,Bool.false_or] at h
      have:=starF_nxt g d (i + 1) h
      exact ⟨by omega,by omega,this.2.2⟩
theorem starF_on {s : ByteArray} {g : Nat → Bool} {i : Nat} (h : i < s.size) : starF g (s.size - i) i = (g i || starF g (s.size - (i + 1)) (i + 1)):=by rw [show s.size - i = (s.size - (i + 1)) + 1 from by omega];rfl
theorem starF_end {s : ByteArray} {g : Nat → Bool} {i : Nat} (h : ¬ i < s.size) : starF g (s.size - i) i = g i:=by rw [show s.size - i = 0 from by omega];rfl
theorem fitP_nil {s : ByteArray} {l : List S108} {i k : Nat} (h : ¬ i < l.length) : fitP s (l.drop i) k = decide (k = s.size):=by rw [List.drop_eq_nil_of_le (by omega)];rfl
theorem fitP_star {s : ByteArray} {l : List S108} {i k : Nat} (h : i < l.length) (hs : (l[i]).f2 = true) : fitP s (l.drop i) k = starF (fitP s (l.drop (i + 1))) (s.size - k) k:=by rw [List.drop_eq_getElem_cons h];simp only [fitP];rw [if_pos hs]
theorem fitP_on {s : ByteArray} {l : List S108} {i k : Nat} (h : i < l.length) (hs : (l[i]).f2 = false) : fitP s (l.drop i) k = (decide (k < s.size) && (((l[i]).f1 || (l[i]).f0 == bt s (k : Int)) && fitP s (l.drop (i + 1)) (k + 1))):=by rw [List.drop_eq_getElem_cons h];simp only [fitP];rw [if_neg (by rw [hs];decide)]
theorem partP_on {s : ByteArray} {l : List S108} {i k : Nat} (h : i < l.length) (hs : (l[i]).f2 = false) : partP s (l.drop i) k = partP s (l.drop (i + 1)) (k + 1):=by rw [List.drop_eq_getElem_cons h];simp only [partP];rw [if_neg (by rw [hs];decide)]
theorem partP_star {s : ByteArray} {l : List S108} {i k : Nat} (h : i < l.length) (hs : (l[i]).f2 = true) : partP s (l.drop i) k = s.extract k (nxtF (fitP s (l.drop (i + 1))) (s.size - k) k) :: partP s (l.drop (i + 1)) (nxtF (fitP s (l.drop (i + 1))) (s.size - k) k):=by rw [List.drop_eq_getElem_cons h];simp only [partP];rw [if_pos hs]
def rowP (s : ByteArray) (a : List S108) : List Bool:=(List.range (s.size + 1)).map (fitP s a)
theorem rowP_len (s : ByteArray) (a : List S108) : (rowP s a).length = s.size + 1:=by simp [rowP]
theorem rowP_at {s : ByteArray} {a : List S108} {k : Nat} (h : k ≤ s.size) : (rowP s a)[k]? = some (fitP s a k):=by unfold rowP;rw [List.getElem?_map,List.getElem?_range (by omega)];rfl
structure Tab (s : ByteArray) (l : List S108) (F : List (List Bool)) (i : Nat) : Prop where
  len : F.length = l.length + 1
  row : ∀ m,i ≤ m → m ≤ l.length → F[m]? = some (rowP s (l.drop m))
structure TabI (s : ByteArray) (l : List S108) (F : List (List Bool)) (i k : Nat) (cur : List Bool) : Prop where
  tab : Tab s l F (i + 1)
  le : i ≤ l.length
  cu : F[i]? = some cur
  clen : cur.length = s.size + 1
  at_ : ∀ q,k ≤ q → q ≤ s.size → cur[q]? = some (fitP s (l.drop i) q)
section
variable {s : ByteArray} {l : List S108} {F : List (List Bool)} {i k : Nat} {cur : List Bool}
theorem tab_start (h : Tab s l F (i + 1)) (hi : i ≤ l.length) (row : List Bool) (hr : row.length = s.size + 1) : TabI s l (F.set i row) i (s.size + 1) row :=
  ⟨⟨by rw [List.length_set];exact h.len,fun m h1 h2 => by rw [List.getElem?_set_ne (by omega)];exact h.row m h1 h2⟩,hi,List.getElem?_set_self (by have:=h.len;omega),hr,fun q h1 h2 => by omega⟩
theorem tab_put (h : TabI s l F i (k + 1) cur) (hk : k ≤ s.size) (b : Bool) (hb : fitP s (l.drop i) k = b) : TabI s l (F.set i (cur.set k b)) i k (cur.set k b):=by
  refine ⟨⟨by rw [List.length_set];exact h.tab.len,fun m h1 h2 => by rw [List.getElem?_set_ne (by omega)];exact h.tab.row m h1 h2⟩,h.le,List.getElem?_set_self (by have:=h.tab.len;have:=h.le;omega),by rw [List.length_set];exact h.clen,fun q h1 h2 => ?_⟩
  by_cases e : q = k
  · subst e
    rw [List.getElem?_set_self (by have:=h.clen;omega),hb]
  · rw [List.getElem?_set_ne (fun h => e h.symm)]
    exact h.at_ q (by omega) h2
theorem tab_done (h : TabI s l F i 0 cur) : Tab s l F i:=by
  refine ⟨h.tab.len,fun m h1 h2 => ?_⟩
  by_cases e : m = i
  · subst e
    rw [h.cu]
    congr 1
    apply List.ext_getElem?
    intro q
    by_cases hq : q ≤ s.size
    · rw [h.at_ q (by omega) hq,rowP_at hq]
    · rw [List.getElem?_eq_none (by have:=h.clen;omega),List.getElem?_eq_none (by rw [rowP_len];omega)]
  · exact h.tab.row m (by omega) h2
theorem tab_init : Tab s l (List.replicate (l.length + 1) []) (l.length + 1):=⟨List.length_replicate,fun m h1 h2 => by omega⟩
end
theorem int_eq {a b : Int} (h : a = b) : Value.int .i64 a = Value.int .i64 b:=by rw [h]
theorem at_nat {α : Type} {l : List α} {a b : Nat} {x : Option α} (h : l[a]? = x) (e : a = b) : l[b]? = x:=e ▸ h
def impl_parts.T9 : Bool × List (List Nat × List Nat):=(true,[([],[]),([],[]),([0,1],[0,1]),([2],[2]),([],[]),([],[]),([],[]),([6],[6]),([5,7],[5,7]),([8],[8]),([9],[9]),([9],[9]),([10,11,9],[9,10,11]),([12,9],[9,12]),([13,9],[9,13]),([14,9,9],[9,14]),([15],[15]),([15],[15]),([16,17,15],[15,16,17]),([18,15],[15,18]),([19,15],[15,19]),([15],[15]),([15],[15]),([21,22,15],[15,21,22]),([20,23,15],[15,20,23]),([15,24,9],[9,15,24]),([9,25],[9,25]),([26,15],[26]),([27],[27]),([27],[27]),([29,27],[27,29]),([28,30,27],[27,28,30]),([31,27],[27,31]),([27],[27]),([33,27],[27,33]),([32,34,27],[27,32,34]),([35,27],[27,35]),([27,36],[27,36]),([3,4,0,1,2,3,4,5,6,7,8,9,10,11,12,13,14,15,16,17,18,19,20,21,22,23,24,25,26,27,28,29,30,31,32,33,34,35,36,37],[3,4]),([38,37,27,0,1,2,3,4,5,6,7,8,9,10,11,12,13,14,15,16,17,18,19,20,21,22,23,24,25,26,27,28,29,30,31,32,33,34,35,36,37],[37,38])])
def impl_parts.B9 : List Nat:=[0,0,3,7,0,0,0,64,224,480,992,992,4064,8160,16352,32736,65504,65504,262112,524256,1048544,65504,65504,6356960,16777184,33554400,67108832,134217696,268435424,268435424,805306336,2147483616,4294967264,268435424,8858370016,34359738336,68719476704,137438953440,274877906943,549755813887]
theorem impl_parts.tab9 : rtab .any (opsOf Tryz.f90 9) = impl_parts.T9:=by kernel_rfl
theorem impl_parts.bits9 : waitsOk impl_parts.T9.2 impl_parts.B9 = true:=by kernel_rfl
def impl_parts.T13 : Bool × List (List Nat × List Nat):=(true,[([],[]),([],[]),([0,1],[0,1]),([2],[2]),([],[]),([],[]),([],[]),([6],[6]),([5,7],[5,7]),([8],[8]),([],[]),([9,10],[9,10]),([11],[11]),([12],[12]),([13],[13]),([13],[13]),([15,13],[13,15]),([14,16,13],[13,14,16]),([17,13,13],[13,17]),([18],[18]),([18],[18]),([19,20,18],[18,19,20]),([21,18],[18,21]),([18],[18]),([23,18],[18,23]),([22,24,18],[18,22,24]),([25,18],[18,25]),([18,26,13],[13,18,26]),([13,27],[13,27]),([3,4,0,1,2,3,4,5,6,7,8,9,10,11,12,13,14,15,16,17,18,19,20,21,22,23,24,25,26,27,28],[3,4]),([29,28,18,0,1,2,3,4,5,6,7,8,9,10,11,12,13,14,15,16,17,18,19,20,21,22,23,24,25,26,27,28],[28,29])])
def impl_parts.B13 : List Nat:=[0,0,3,7,0,0,0,64,224,480,0,2016,4064,8160,16352,16352,49120,131040,262112,524256,524256,2097120,4194272,524256,8912864,33554400,67108832,134217696,268435424,536870911,1073741823]
theorem impl_parts.tab13 : rtab .any (opsOf Tryz.f90 13) = impl_parts.T13:=by kernel_rfl
theorem impl_parts.bits13 : waitsOk impl_parts.T13.2 impl_parts.B13 = true:=by kernel_rfl
def impl_parts.f (l0 : List S108) (a1 : ByteArray) : Option (List ByteArray × Bool):=if l0.length ≤ 1000 then (if a1.size ≤ 1000 then (if fitP a1 l0 0 = true then some (partP a1 l0 0,true) else some ([],false)) else none) else none
theorem impl_parts.calls (A0 : Option Addr) (c0 : Nat) (l0 : List S108) (a1 : ByteArray) (r1 : List ByteArray) (r2 : Bool) (w : World) (hr0 : Kd.C k108 w A0 l0.length l0) (hc0 : l0.length ≤ c0) (h : impl_parts.f l0 a1 = some (r1,r2)) :
    Calls Tryz.prog 90 #[.slice A0 l0.length c0,.string a1] w fun e w' => ∃ v0_ : Value,e = .returned (.tuple #[v0_,.bool r2]) ∧ Kd.R Kd.string 9 w' w.heap.size (fun _ => True) v0_ r1 ∧ Below w.heap.size w w':=by
  have hu:=Tryz.underlying108
  have iB : (Tryz.prog.info? 4).map (fun i => (i.zero,i.size,i.bytes)) = some (some (.bool false),1,1):=by kernel_rfl
  have iR : (Tryz.prog.info? 88).map (fun i => (i.zero,i.size,i.bytes)) = some (some (.slice none 0 0),1,24):=by kernel_rfl
  have iT : (Tryz.prog.info? 9).map (fun i => (i.zero,i.size,i.bytes)) = some (some (.string ⟨#[]⟩),1,16):=by kernel_rfl
  have HR0:=am_ hr0
  clear hr0
  have HB:=am_ (Below.refl w.heap.size w)
  unfold impl_parts.f at h
  by_cases z1 : l0.length ≤ 1000
  · rw [if_pos z1] at h
    by_cases z2 : a1.size ≤ 1000
    · rw [if_pos z2] at h
      have HZ:=am_ (And.intro z1 z2)
      have HF:=am_ h
      obtain ⟨jl,hjl⟩ : ∃ j_ : Int,wrap64 ((l0.length : Int) + 1) = j_:=⟨_,rfl⟩
      have hjlw : IntKind.i64.wrap ((l0.length : Int) + 1) = jl:=(i64_w _).trans hjl
      have HJL:=am_ (show jl = (l0.length : Int) + 1 by rw [← hjl];unfold wrap64;omega)
      obtain ⟨js,hjs⟩ : ∃ j_ : Int,wrap64 ((a1.size : Int) + 1) = j_:=⟨_,rfl⟩
      have hjsw : IntKind.i64.wrap ((a1.size : Int) + 1) = js:=(i64_w _).trans hjs
      have HJS:=am_ (show js = (a1.size : Int) + 1 by rw [← hjs];unfold wrap64;omega)
      obtain ⟨nF,hnF⟩ : ∃ n_ : Nat,(List.replicate (l0.length + 1) ([] : List Bool)).length = n_:=⟨_,rfl⟩
      have HNF:=am_ (show nF = l0.length + 1 by rw [← hnF,List.length_replicate])
      obtain ⟨nS,hnS⟩ : ∃ n_ : Nat,(List.replicate (a1.size + 1) false).length = n_:=⟨_,rfl⟩
      have HNF2:=am_ hnF
      have HNS2:=am_ hnS
      have HJN:=am_ (show jl.toNat = l0.length + 1 by have:=HJL.out;omega)
      have HJM:=am_ (show js.toNat = a1.size + 1 by have:=HJS.out;omega)
      clear h z1 z2 hnF hnS
      go_enter Tryz.func90,Tryz.ntmps90
      go_wp2_with (first|((with_reducible refine gate_dst (N:=17) rfl ?_);refine Kd.S_make (Kd.slice 4 Kd.bool) _ 88 rfl (N:=17) rfl 113 _ _ rfl jl rfl rfl Tryz.underlying113 (.slice none 0 0) 24 iR rfl (by decide) (by omega) ([] : List Bool) (ok:=fun _ => True) (okp:=fun _ => True) ⟨_,rfl,Kd.R_nil _ _ _ _ _⟩ (fun _ hk => hk) trivial (by have h1_:=HJL.out;omega) (by have h1_:=HJN.out;have h2_:=HZ.out;omega) (Below.refl _ _) (Nat.le_refl _) ?_;intro v17 w17 ho hb hg_ hnew_;clear hg_ hnew_;rw [HJN.out] at ho;obtain ⟨gF,cF,eF,hz1_,hz2_,hz3_⟩:=Kd.S_form ho (by simp);rw [HNF2.out] at eF;subst eF;have n0_:=am_ (Kd.S_lower ho (below_size bl_));have n1_:=am_ (below_step bl_ hb);clear HB;have HS:=n0_;have HB:=n1_;clear n0_ n1_ ho hb hz1_ hz2_ hz3_))
      go_loopg [7] (l0.length + 1) (fun gg v7 w' => ∃ (F : List (List Bool)) (i : Nat),v7 = .int .i64 ((i : Int) - 1) ∧ Aside0 (i ≤ l0.length + 1 ∧ i ≤ gg) ∧ Aside0 (Tab a1 l0 F i) ∧ Aside0 (Kd.S (Kd.slice 4 Kd.bool) 88 w' w.heap.size (fun _ => True) (.slice (some ⟨gF,0,none⟩) nF cF) F) ∧ Aside0 (Below w.heap.size w w'))
      case atStart => exact ⟨List.replicate (l0.length + 1) [],l0.length + 1,int_eq (by omega),⟨by omega,Nat.le_refl _⟩,⟨tab_init⟩,⟨sq_ HS⟩,⟨bl_⟩⟩
      case round =>
        clear HS HB
        obtain ⟨F,i,e7,HL,HT,HS,HB⟩:=hrel
        obtain ⟨I,hI⟩ : ∃ I : Int,(i : Int) - 1 = I:=⟨_,rfl⟩
        rw [hI] at e7
        subst e7
        cases i with
        | succ i =>
          have HI:=am_ (show (i : Int) = I by omega)
          have c0 : 0 ≤ I:=by omega
          have c0b : decide (0 ≤ I) = true:=decide_eq_true c0
          have HLI:=am_ (show i ≤ l0.length by have:=HL.out;omega)
          have HIT:=am_ (show I.toNat = i by omega)
          have p5:=eq_true c0
          have q5 : (I < (nF : Int)) = True:=eq_true (by have h1_:=HNF.out;have h2_:=HLI.out;omega)
          clear c0 hI
          go_wp2_with (first|((with_reducible refine gate_dst (N:=29) rfl ?_);refine Kd.R_make Kd.bool _ 4 rfl (N:=29) rfl 88 _ _ rfl js rfl rfl Tryz.underlying88 (.bool false) 1 iB rfl (by decide) (by omega) false (ok:=fun _ => True) (okp:=fun _ => True) rfl (fun _ hk => hk) trivial (by have h1_:=HJS.out;omega) (by have h1_:=HJM.out;have h2_:=HZ.out;omega) (Below.refl _ _) (Nat.le_refl _) ?_;intro v29 w29 ho hb hg_ hnew_;clear hg_;rw [HJM.out] at ho;have hs_:=Kd.S_elder' (show Kd.S (Kd.slice 4 Kd.bool) 88 _ w.heap.size (fun _ => True) (.slice (some ⟨gF,0,none⟩) nF cF) F from sq_ HS) (fun k_ hk => hnew_.elim fun b_ h_ => by rw [h_.1] at hk;injection hk with hk;omega) hb;clear hnew_;obtain ⟨g29,c29,e29,hz1_,hz2_,hz3_⟩:=Kd.R_form ho (by simp);rw [HNS2.out] at e29;subst e29;clear hz1_ hz2_ hz3_;obtain ⟨⟨u5,hx5⟩,hf5,hb5,hS5⟩:=s_new rfl hs_ (Kd.R_lower ho (below_size bl_)) I (of_eq_true p5) (of_eq_true q5);have n0_:=am_ hS5;have n1_:=am_ (below_step bl_ hb);have n2_:=am_ hb5;clear HS HB;have HS5:=n0_;have HB:=n1_;have HGE:=n2_;clear n0_ n1_ n2_ hS5 hb5 hs_ ho hb)|((with_reducible refine gate_store (t:=88) (p:=30) rfl ?_);refine store_event (t:=88) (p:=30) (v:=?vo_30) (w1:=(w29.setCell ⟨gF,I.toNat,none⟩ (.slice (some ⟨g29,0,none⟩) nS c29))) ?hg ?ho ?hn ?hr ?_;(case ho => rfl);(case hg => rfl);(case hn => rfl);(case hr => first|(go_simp;done)|(go_simp;rfl));intro w30 hw;have n0_:=am_ (show Kd.S (Kd.slice 4 Kd.bool) 88 w30 w.heap.size (fun _ => True) (.slice (some ⟨gF,0,none⟩) nF cF) (F.set I.toNat (List.replicate (a1.size + 1) false)) from by rw [hw];exact HS5.out);have n1_:=am_ (show Below w.heap.size w w30 from by rw [hw];exact below_set HB.out HGE.out);clear HS5 HB HGE hx5 hf5;have HS:=n0_;have HB:=n1_;clear n0_ n1_ hw))
          go_loopg [8] (a1.size + 1) (fun gg v8 w' => ∃ (F : List (List Bool)) (k : Nat) (cur : List Bool),v8 = .int .i64 ((k : Int) - 1) ∧ Aside0 (k ≤ a1.size + 1 ∧ k ≤ gg) ∧ Aside0 (TabI a1 l0 F i k cur) ∧ Aside0 (Kd.S (Kd.slice 4 Kd.bool) 88 w' w.heap.size (fun _ => True) (.slice (some ⟨gF,0,none⟩) nF cF) F) ∧ Aside0 (Below w.heap.size w w'))
          case atStart => exact ⟨F.set I.toNat (List.replicate (a1.size + 1) false),a1.size + 1,_,int_eq (by omega),⟨by omega,Nat.le_refl _⟩,⟨by rw [HIT.out];exact tab_start HT.out HLI.out _ (by simp)⟩,⟨sq_ HS⟩,⟨bl_⟩⟩
          case round =>
            clear HS HB HT F
            obtain ⟨F,k,cur,e8,HL2,HT2,HS,HB⟩:=hrel
            obtain ⟨K,hK⟩ : ∃ K : Int,(k : Int) - 1 = K:=⟨_,rfl⟩
            rw [hK] at e8
            subst e8
            cases k with
            | zero =>
              have c1b : decide (0 ≤ K) = false:=decide_eq_false (by omega)
              clear hK
              go_wp2
              go_roundg i
              case measure => have:=HL.out;omega
              case rel => exact ⟨F,i,int_eq (by have h1_:=HI.out;have h2_:=HLI.out;have h3_:=HZ.out;unfold wrap64;omega),⟨by have:=HLI.out;omega,Nat.le_refl _⟩,⟨tab_done HT2.out⟩,⟨sq_ HS⟩,⟨bl_⟩⟩
            | succ k =>
              have HK:=am_ (show (k : Int) = K by omega)
              have c1 : 0 ≤ K:=by omega
              have c1b : decide (0 ≤ K) = true:=decide_eq_true c1
              have HKL:=am_ (show k ≤ a1.size by have:=HL2.out;omega)
              have HKT:=am_ (show K.toNat = k by omega)
              have p6:=eq_true c1
              have q6 : (K < (cur.length : Int)) = True:=eq_true (by have h1_:=HT2.out.clen;have h2_:=HKL.out;omega)
              have HQ6:=am_ (show K < (cur.length : Int) by have h1_:=HT2.out.clen;have h2_:=HKL.out;omega)
              have HC1:=am_ c1
              have HC0:=am_ (show 0 ≤ I by have:=HI.out;omega)
              have HCU:=am_ (show F[I.toNat]? = some cur by rw [HIT.out];exact HT2.out.cu)
              clear c1 hK
              obtain ⟨K1,hK1⟩ : ∃ j_ : Int,wrap64 (K + 1) = j_:=⟨_,rfl⟩
              have hK1w : IntKind.i64.wrap (K + 1) = K1:=(i64_w _).trans hK1
              have HK1:=am_ (show K1 = ((k + 1 : Nat) : Int) by rw [← hK1];have h1_:=HK.out;have h2_:=HKL.out;have h3_:=HZ.out;unfold wrap64;omega)
              obtain ⟨J1,hJ1⟩ : ∃ j_ : Int,wrap64 (I + 1) = j_:=⟨_,rfl⟩
              have hJ1w : IntKind.i64.wrap (I + 1) = J1:=(i64_w _).trans hJ1
              have HJ1:=am_ (show J1 = ((i + 1 : Nat) : Int) by rw [← hJ1];have h1_:=HI.out;have h2_:=HLI.out;have h3_:=HZ.out;unfold wrap64;omega)
              by_cases a : i = l0.length
              · have ab : (I == (l0.length : Int)) = true:=beq_iff_eq.mpr (by have:=HI.out;omega)
                have HA:=am_ a
                clear a
                by_cases kb : k = a1.size
                · have kbb : (K == (a1.size : Int)) = true:=beq_iff_eq.mpr (by have:=HK.out;omega)
                  have HKB:=am_ kb
                  clear kb
                  obtain ⟨gi,ci,hx1,⟨u2,hx2⟩,hf2,hb2,hq2,hS2⟩:=s_put HS.out I K cur HC0.out HCU.out HC1.out HQ6.out true
                  have HS2:=am_ hS2
                  have HGE:=am_ hb2
                  clear hS2 hb2 hq2 HS
                  go_wp2_with (first|((with_reducible refine gate_store (t:=4) (p:=90) rfl ?_);refine store_event (t:=4) (p:=90) (v:=?vo_90) (w1:=(wr.setCell ⟨gi,K.toNat,none⟩ (.bool true))) ?hg ?ho ?hn ?hr ?_;(case ho => rfl);(case hg => rfl);(case hn => rfl);(case hr => first|(go_simp;done)|(go_simp;rfl));intro w90 hw;have n0_:=am_ (show Kd.S (Kd.slice 4 Kd.bool) 88 w90 w.heap.size (fun _ => True) (.slice (some ⟨gF,0,none⟩) nF cF) (F.set I.toNat (cur.set K.toNat true)) from by rw [hw];exact HS2.out);have n1_:=am_ (show Below w.heap.size w w90 from by rw [hw];exact below_set HB.out HGE.out);clear HS2 HB HGE hx1 hx2 hf2;have HS2:=n0_;have HB:=n1_;clear n0_ n1_ hw))
                  go_roundg k
                  case measure => have:=HL2.out;omega
                  case rel => exact ⟨F.set I.toNat (cur.set K.toNat true),k,cur.set K.toNat true,int_eq (by have h1_:=HK.out;have h2_:=HKL.out;have h3_:=HZ.out;unfold wrap64;omega),⟨by have:=HKL.out;omega,Nat.le_refl _⟩,⟨by rw [HIT.out,HKT.out];exact tab_put HT2.out HKL.out true ((fitP_nil (by have:=HA.out;omega)).trans (decide_eq_true HKB.out))⟩,⟨sq_ HS2⟩,⟨bl_⟩⟩
                · have kbb : (K == (a1.size : Int)) = false:=beq_eq_false_iff_ne.mpr (by have:=HK.out;omega)
                  have HKB:=am_ kb
                  clear kb
                  obtain ⟨gi,ci,hx1,⟨u2,hx2⟩,hf2,hb2,hq2,hS2⟩:=s_put HS.out I K cur HC0.out HCU.out HC1.out HQ6.out false
                  have HS2:=am_ hS2
                  have HGE:=am_ hb2
                  clear hS2 hb2 hq2 HS
                  go_wp2_with (first|((with_reducible refine gate_store (t:=4) (p:=90) rfl ?_);refine store_event (t:=4) (p:=90) (v:=?vo_90) (w1:=(wr.setCell ⟨gi,K.toNat,none⟩ (.bool false))) ?hg ?ho ?hn ?hr ?_;(case ho => rfl);(case hg => rfl);(case hn => rfl);(case hr => first|(go_simp;done)|(go_simp;rfl));intro w90 hw;have n0_:=am_ (show Kd.S (Kd.slice 4 Kd.bool) 88 w90 w.heap.size (fun _ => True) (.slice (some ⟨gF,0,none⟩) nF cF) (F.set I.toNat (cur.set K.toNat false)) from by rw [hw];exact HS2.out);have n1_:=am_ (show Below w.heap.size w w90 from by rw [hw];exact below_set HB.out HGE.out);clear HS2 HB HGE hx1 hx2 hf2;have HS2:=n0_;have HB:=n1_;clear n0_ n1_ hw))
                  go_roundg k
                  case measure => have:=HL2.out;omega
                  case rel => exact ⟨F.set I.toNat (cur.set K.toNat false),k,cur.set K.toNat false,int_eq (by have h1_:=HK.out;have h2_:=HKL.out;have h3_:=HZ.out;unfold wrap64;omega),⟨by have:=HKL.out;omega,Nat.le_refl _⟩,⟨by rw [HIT.out,HKT.out];exact tab_put HT2.out HKL.out false ((fitP_nil (by have:=HA.out;omega)).trans (decide_eq_false HKB.out))⟩,⟨sq_ HS2⟩,⟨bl_⟩⟩
              · have ab : (I == (l0.length : Int)) = false:=beq_eq_false_iff_ne.mpr (by have:=HI.out;omega)
                have hil : i < l0.length:=by have:=HLI.out;omega
                have HIL:=am_ hil
                have hI1 : I < (l0.length : Int):=by have:=HI.out;omega
                have p7:=eq_true hI1
                clear a
                obtain ⟨adP,eP,hp0,hp1,hp2⟩:=at_T108 HR0.out I HC0.out hI1
                have hrd : rd_T108 l0 I = l0[i]'hil:=by show l0.getD I.toNat _ = _;rw [HIT.out,List.getD_eq_getElem?_getD,List.getElem?_eq_getElem hil];rfl
                rw [hrd] at hp0 hp1 hp2
                cases eP
                clear hrd hI1
                obtain ⟨row1,hrow1⟩ : ∃ r_,rowP a1 (l0.drop (i + 1)) = r_:=⟨_,rfl⟩
                have HRL:=am_ (show row1.length = a1.size + 1 by rw [← hrow1];exact rowP_len _ _)
                have HRA:=am_ (show ∀ q,q ≤ a1.size → row1[q]? = some (fitP a1 (l0.drop (i + 1)) q) from fun q hq => by rw [← hrow1];exact rowP_at hq)
                have HRF:=am_ (show F[J1.toNat]? = some row1 by rw [show J1.toNat = i + 1 by have:=HJ1.out;omega,HT2.out.tab.row (i + 1) (Nat.le_refl _) hil,hrow1])
                clear hrow1
                have p8 : (0 ≤ J1) = True:=eq_true (by have:=HJ1.out;omega)
                have q8 : (J1 < (nF : Int)) = True:=eq_true (by have h1_:=HJ1.out;have h2_:=HNF.out;omega)
                have q9 : (K < (row1.length : Int)) = True:=eq_true (by have h1_:=HRL.out;have h2_:=HKL.out;have h3_:=HK.out;omega)
                cases hst : (l0[i]'hil).f2 with
                | true =>
                  rw [hst] at hp2
                  have HST:=am_ hst
                  clear hst
                  have hp2:=kp_ HB hp2
                  cases hb1 : fitP a1 (l0.drop (i + 1)) k with
                  | true =>
                    have HB1:=am_ hb1
                    clear hb1
                    try go_wp2
                    have n0_:=am_ (Kd.S_drew HS.out)
                    have n1_:=am_ (below_drew1 HB.out)
                    clear HS HB
                    have HS:=n0_
                    have HB:=n1_
                    clear n0_ n1_
                    obtain ⟨gi,ci,hx1,⟨u2,hx2⟩,hf2,hb2,hq2,hS2⟩:=s_put HS.out I K cur HC0.out HCU.out HC1.out HQ6.out true
                    obtain ⟨g1,c1,hr1,hl1,hC1⟩:=s_row HS.out J1 row1 (of_eq_true p8) HRF.out (by have:=HRL.out;omega)
                    obtain ⟨ad1,ea1,hb1⟩:=Kd.at_bool hC1 K (by first|exact HC1.out|(have:=HK1.out;omega)) (by first|exact of_eq_true q9|(have h1_:=HK1.out;have h2_:=HRL.out;have h3_:=HKS.out;omega))
                    cases ea1
                    rw [add_plain] at hb1
                    clear hC1 hl1
                    rw [show rdOf false row1 K = true from by rw [rdOf,HKT.out,List.getD_eq_getElem?_getD,HRA.out k (by first|exact HKL.out|exact HKS.out),HB1.out];rfl] at hb1
                    have HS2:=am_ hS2
                    have HGE:=am_ hb2
                    clear hS2 hb2 hq2 HS
                    refine start_ (n:=31) (S:=fun w' => w'.cell? ⟨gF,I.toNat,none⟩ = some (.slice (some ⟨gi,0,none⟩) cur.length ci) ∧ w'.cell? ⟨gF,J1.toNat,none⟩ = some (.slice (some ⟨g1,0,none⟩) row1.length c1) ∧ w'.cell? ⟨g1,K.toNat,none⟩ = some (.bool true)) (ds:=[30]) (bz 31 0) (by kernel_rfl) rfl rfl ⟨hx1,hr1,hb1⟩ (fun hHeld => ?_)
                    refine with_tabW impl_parts.tab13 impl_parts.bits13 (fun HT_ HW_ => ?_)
                    generalize wr.drew = w9 at HS2 HB hx1 hx2 hf2 hr1 hb1 hHeld ⊢
                    refine pz_ 0 97 1 ?_
                    refine pz_ 1 98 3 ?_
                    refine pz_ 2 99 7 ?_
                    refine pz_ 4 101 23 ?_
                    refine pz_ 5 102 55 ?_
                    refine pz_ 6 103 119 ?_
                    refine pz_ 7 104 247 ?_
                    refine pz_ 8 105 503 ?_
                    refine pz_ 10 107 1527 ?_
                    refine tz_ 3 100 1535 ?_
                    refine tz_ 9 106 2047 ?_
                    refine pz_ 11 108 4095 ?_
                    refine tz_ 12 109 8191 ?_
                    refine pz_ 13 110 16383 ?_
                    refine uz_ 14 111 32767 ?_
                    refine uz_ 15 112 65535 ?_
                    refine uz_ 16 113 131071 ?_
                    refine uz_ 17 114 262143 ?_
                    refine uz_ 18 115 524287 ?_
                    refine uz_ 19 116 1048575 ?_
                    refine uz_ 20 117 2097151 ?_
                    refine uz_ 21 118 4194303 ?_
                    refine uz_ 22 119 8388607 ?_
                    refine uz_ 23 120 16777215 ?_
                    refine uz_ 24 121 33554431 ?_
                    refine uz_ 25 122 67108863 ?_
                    refine uz_ 26 123 134217727 ?_
                    refine uz_ 27 124 268435455 ?_
                    refine pz_ 28 125 536870911 ?_
                    refine pz_ 29 126 1073741823 ?_
                    refine last_ (i:=30) (N:=none) (bz 31 2147483647) rfl rfl (one_of HT_.out (by kernel_rfl)) (by decide) (fun K hK => ?_)
                    refine skip_ (w1:=?_) (by rfl) rfl ?_ ?_
                    rotate_left
                    · go_simp
                      rfl
                    refine hK.out _ _ ?_
                    clear hK K
                    refine done_ (done_of HT_.out (by kernel_rfl)) ?_
                    try go_wp2
                    go_roundg k
                    case measure => have:=HL2.out;omega
                    case rel => exact ⟨F.set I.toNat (cur.set K.toNat true),k,cur.set K.toNat true,int_eq (by have h1_:=HK.out;have h2_:=HKL.out;have h3_:=HZ.out;unfold wrap64;omega),⟨by have:=HKL.out;omega,Nat.le_refl _⟩,⟨by rw [HIT.out,HKT.out];exact tab_put HT2.out HKL.out true ((fitP_star HIL.out HST.out).trans ((Decidable.em (k < a1.size)).elim (fun h_ => by rw [starF_on h_,HB1.out,Bool.true_or]) (fun h_ => by rw [starF_end h_,HB1.out])))⟩,HS2,⟨below_set HB.out HGE.out⟩⟩
                  | false =>
                    have HB1:=am_ hb1
                    clear hb1
                    by_cases ks : k < a1.size
                    · have ksb : decide (K < (a1.size : Int)) = true:=decide_eq_true (by have:=HK.out;omega)
                      have HKS:=am_ (show k + 1 ≤ a1.size from ks)
                      clear ks
                      have pK1 : (0 ≤ K1) = True:=eq_true (by have:=HK1.out;omega)
                      have qK1 : (K1 < (cur.length : Int)) = True:=eq_true (by have h1_:=HK1.out;have h2_:=HT2.out.clen;have h3_:=HKS.out;omega)
                      have HCK:=am_ (HT2.out.at_ (k + 1) (Nat.le_refl _) HKS.out)
                      obtain ⟨b2,hb2v⟩ : ∃ b_,fitP a1 (l0.drop i) (k + 1) = b_:=⟨_,rfl⟩
                      rw [hb2v] at HCK
                      have HB2:=am_ hb2v
                      clear hb2v
                      try go_wp2
                      have n0_:=am_ (Kd.S_drew HS.out)
                      have n1_:=am_ (below_drew1 HB.out)
                      clear HS HB
                      have HS:=n0_
                      have HB:=n1_
                      clear n0_ n1_
                      obtain ⟨gi,ci,hx1,⟨u2,hx2⟩,hf2,hb2,hq2,hS2⟩:=s_put HS.out I K cur HC0.out HCU.out HC1.out HQ6.out b2
                      obtain ⟨g1,c1,hr1,hl1,hC1⟩:=s_row HS.out J1 row1 (of_eq_true p8) HRF.out (by have:=HRL.out;omega)
                      obtain ⟨ad1,ea1,hb1⟩:=Kd.at_bool hC1 K (by first|exact HC1.out|(have:=HK1.out;omega)) (by first|exact of_eq_true q9|(have h1_:=HK1.out;have h2_:=HRL.out;have h3_:=HKS.out;omega))
                      cases ea1
                      rw [add_plain] at hb1
                      clear hC1 hl1
                      rw [show rdOf false row1 K = false from by rw [rdOf,HKT.out,List.getD_eq_getElem?_getD,HRA.out k (by first|exact HKL.out|exact HKS.out),HB1.out];rfl] at hb1
                      have hb3:=hq2 K1.toNat b2 (at_nat HCK.out (by have:=HK1.out;omega))
                      have HS2:=am_ hS2
                      have HGE:=am_ hb2
                      clear hS2 hb2 hq2 HS
                      refine start_ (n:=31) (S:=fun w' => w'.cell? ⟨gF,I.toNat,none⟩ = some (.slice (some ⟨gi,0,none⟩) cur.length ci) ∧ w'.cell? ⟨gF,J1.toNat,none⟩ = some (.slice (some ⟨g1,0,none⟩) row1.length c1) ∧ w'.cell? ⟨g1,K.toNat,none⟩ = some (.bool false) ∧ w'.cell? ⟨gi,K1.toNat,none⟩ = some (.bool b2)) (ds:=[30]) (bz 31 0) (by kernel_rfl) rfl rfl ⟨hx1,hr1,hb1,hb3⟩ (fun hHeld => ?_)
                      refine with_tabW impl_parts.tab13 impl_parts.bits13 (fun HT_ HW_ => ?_)
                      generalize wr.drew = w9 at HS2 HB hx1 hx2 hf2 hr1 hb1 hb3 hHeld ⊢
                      refine pz_ 0 97 1 ?_
                      refine pz_ 1 98 3 ?_
                      refine pz_ 2 99 7 ?_
                      refine pz_ 4 101 23 ?_
                      refine pz_ 5 102 55 ?_
                      refine pz_ 6 103 119 ?_
                      refine pz_ 7 104 247 ?_
                      refine pz_ 8 105 503 ?_
                      refine pz_ 10 107 1527 ?_
                      refine tz_ 3 100 1535 ?_
                      refine tz_ 9 106 2047 ?_
                      refine pz_ 11 108 4095 ?_
                      refine tz_ 12 109 8191 ?_
                      refine pz_ 13 110 16383 ?_
                      refine pz_ 14 111 32767 ?_
                      refine pz_ 15 112 65535 ?_
                      refine pz_ 16 113 131071 ?_
                      refine pz_ 17 114 262143 ?_
                      refine pz_ 18 115 524287 ?_
                      refine pz_ 19 116 1048575 ?_
                      refine pz_ 20 117 2097151 ?_
                      refine pz_ 21 118 4194303 ?_
                      refine pz_ 23 120 12582911 ?_
                      refine pz_ 24 121 29360127 ?_
                      refine tz_ 22 119 33554431 ?_
                      refine pz_ 25 122 67108863 ?_
                      refine tz_ 26 123 134217727 ?_
                      refine pz_ 27 124 268435455 ?_
                      refine pz_ 28 125 536870911 ?_
                      refine pz_ 29 126 1073741823 ?_
                      refine last_ (i:=30) (N:=none) (bz 31 2147483647) rfl rfl (one_of HT_.out (by kernel_rfl)) (by decide) (fun K hK => ?_)
                      refine skip_ (w1:=?_) (by rfl) rfl ?_ ?_
                      rotate_left
                      · go_simp
                        rfl
                      refine hK.out _ _ ?_
                      clear hK K
                      refine done_ (done_of HT_.out (by kernel_rfl)) ?_
                      try go_wp2
                      go_roundg k
                      case measure => have:=HL2.out;omega
                      case rel => exact ⟨F.set I.toNat (cur.set K.toNat b2),k,cur.set K.toNat b2,int_eq (by have h1_:=HK.out;have h2_:=HKL.out;have h3_:=HZ.out;unfold wrap64;omega),⟨by have:=HKL.out;omega,Nat.le_refl _⟩,⟨by rw [HIT.out,HKT.out];exact tab_put HT2.out HKL.out b2 ((fitP_star HIL.out HST.out).trans (by rw [starF_on (show k < a1.size from HKS.out),HB1.out,Bool.false_or,← fitP_star HIL.out HST.out];exact HB2.out))⟩,HS2,⟨below_set HB.out HGE.out⟩⟩
                    · have ksb : decide (K < (a1.size : Int)) = false:=decide_eq_false (by have:=HK.out;omega)
                      have HKS2:=am_ ks
                      clear ks
                      try go_wp2
                      have n0_:=am_ (Kd.S_drew HS.out)
                      have n1_:=am_ (below_drew1 HB.out)
                      clear HS HB
                      have HS:=n0_
                      have HB:=n1_
                      clear n0_ n1_
                      obtain ⟨gi,ci,hx1,⟨u2,hx2⟩,hf2,hb2,hq2,hS2⟩:=s_put HS.out I K cur HC0.out HCU.out HC1.out HQ6.out false
                      obtain ⟨g1,c1,hr1,hl1,hC1⟩:=s_row HS.out J1 row1 (of_eq_true p8) HRF.out (by have:=HRL.out;omega)
                      obtain ⟨ad1,ea1,hb1⟩:=Kd.at_bool hC1 K (by first|exact HC1.out|(have:=HK1.out;omega)) (by first|exact of_eq_true q9|(have h1_:=HK1.out;have h2_:=HRL.out;have h3_:=HKS.out;omega))
                      cases ea1
                      rw [add_plain] at hb1
                      clear hC1 hl1
                      rw [show rdOf false row1 K = false from by rw [rdOf,HKT.out,List.getD_eq_getElem?_getD,HRA.out k (by first|exact HKL.out|exact HKS.out),HB1.out];rfl] at hb1
                      have HS2:=am_ hS2
                      have HGE:=am_ hb2
                      clear hS2 hb2 hq2 HS
                      refine start_ (n:=31) (S:=fun w' => w'.cell? ⟨gF,I.toNat,none⟩ = some (.slice (some ⟨gi,0,none⟩) cur.length ci) ∧ w'.cell? ⟨gF,J1.toNat,none⟩ = some (.slice (some ⟨g1,0,none⟩) row1.length c1) ∧ w'.cell? ⟨g1,K.toNat,none⟩ = some (.bool false)) (ds:=[30]) (bz 31 0) (by kernel_rfl) rfl rfl ⟨hx1,hr1,hb1⟩ (fun hHeld => ?_)
                      refine with_tabW impl_parts.tab13 impl_parts.bits13 (fun HT_ HW_ => ?_)
                      generalize wr.drew = w9 at HS2 HB hx1 hx2 hf2 hr1 hb1 hHeld ⊢
                      refine pz_ 0 97 1 ?_
                      refine pz_ 1 98 3 ?_
                      refine pz_ 2 99 7 ?_
                      refine pz_ 4 101 23 ?_
                      refine pz_ 5 102 55 ?_
                      refine pz_ 6 103 119 ?_
                      refine pz_ 7 104 247 ?_
                      refine pz_ 8 105 503 ?_
                      refine pz_ 10 107 1527 ?_
                      refine tz_ 3 100 1535 ?_
                      refine tz_ 9 106 2047 ?_
                      refine pz_ 11 108 4095 ?_
                      refine tz_ 12 109 8191 ?_
                      refine pz_ 13 110 16383 ?_
                      refine pz_ 14 111 32767 ?_
                      refine pz_ 15 112 65535 ?_
                      refine pz_ 16 113 131071 ?_
                      refine pz_ 17 114 262143 ?_
                      refine pz_ 18 115 524287 ?_
                      refine uz_ 19 116 1048575 ?_
                      refine uz_ 20 117 2097151 ?_
                      refine uz_ 21 118 4194303 ?_
                      refine uz_ 22 119 8388607 ?_
                      refine uz_ 23 120 16777215 ?_
                      refine uz_ 24 121 33554431 ?_
                      refine uz_ 25 122 67108863 ?_
                      refine uz_ 26 123 134217727 ?_
                      refine pz_ 27 124 268435455 ?_
                      refine pz_ 28 125 536870911 ?_
                      refine pz_ 29 126 1073741823 ?_
                      refine last_ (i:=30) (N:=none) (bz 31 2147483647) rfl rfl (one_of HT_.out (by kernel_rfl)) (by decide) (fun K hK => ?_)
                      refine skip_ (w1:=?_) (by rfl) rfl ?_ ?_
                      rotate_left
                      · go_simp
                        rfl
                      refine hK.out _ _ ?_
                      clear hK K
                      refine done_ (done_of HT_.out (by kernel_rfl)) ?_
                      try go_wp2
                      go_roundg k
                      case measure => have:=HL2.out;omega
                      case rel => exact ⟨F.set I.toNat (cur.set K.toNat false),k,cur.set K.toNat false,int_eq (by have h1_:=HK.out;have h2_:=HKL.out;have h3_:=HZ.out;unfold wrap64;omega),⟨by have:=HKL.out;omega,Nat.le_refl _⟩,⟨by rw [HIT.out,HKT.out];exact tab_put HT2.out HKL.out false ((fitP_star HIL.out HST.out).trans (by rw [starF_end HKS2.out,HB1.out]))⟩,HS2,⟨below_set HB.out HGE.out⟩⟩
                | false =>
                  rw [hst] at hp2
                  have HST:=am_ hst
                  clear hst
                  have hp2:=kp_ HB hp2
                  by_cases ks : k < a1.size
                  · have ksb : decide (K < (a1.size : Int)) = true:=decide_eq_true (by have:=HK.out;omega)
                    have HKS:=am_ (show k + 1 ≤ a1.size from ks)
                    have hks2 : K < (a1.size : Int):=by have:=HK.out;omega
                    have hx6:=bt_at a1 K
                    have q6s:=eq_true hks2
                    clear ks hks2
                    have pK1 : (0 ≤ K1) = True:=eq_true (by have:=HK1.out;omega)
                    have qK1 : (K1 < (row1.length : Int)) = True:=eq_true (by have h1_:=HK1.out;have h2_:=HRL.out;have h3_:=HKS.out;omega)
                    obtain ⟨b2,hb2v⟩ : ∃ b_,fitP a1 (l0.drop (i + 1)) (k + 1) = b_:=⟨_,rfl⟩
                    have HB2:=am_ hb2v
                    clear hb2v
                    cases han : (l0[i]'hil).f1 with
                    | true =>
                      rw [han] at hp1
                      have HAN:=am_ han
                      clear han
                      try go_wp2
                      have n0_:=am_ (Kd.S_drew HS.out)
                      have n1_:=am_ (below_drew1 HB.out)
                      clear HS HB
                      have HS:=n0_
                      have HB:=n1_
                      clear n0_ n1_
                      have hy1:=kp_ HB hp1
                      obtain ⟨gi,ci,hx1,⟨u2,hx2⟩,hf2,hb2,hq2,hS2⟩:=s_put HS.out I K cur HC0.out HCU.out HC1.out HQ6.out b2
                      obtain ⟨g1,c1,hr1,hl1,hC1⟩:=s_row HS.out J1 row1 (of_eq_true p8) HRF.out (by have:=HRL.out;omega)
                      obtain ⟨ad1,ea1,hb1⟩:=Kd.at_bool hC1 K1 (by first|exact HC1.out|(have:=HK1.out;omega)) (by first|exact of_eq_true q9|(have h1_:=HK1.out;have h2_:=HRL.out;have h3_:=HKS.out;omega))
                      cases ea1
                      rw [add_plain] at hb1
                      clear hC1 hl1
                      rw [show rdOf false row1 K1 = b2 from by rw [rdOf,show K1.toNat = k + 1 by have:=HK1.out;omega,List.getD_eq_getElem?_getD,HRA.out (k + 1) (by first|exact HKL.out|exact HKS.out),HB2.out];rfl] at hb1
                      have HS2:=am_ hS2
                      have HGE:=am_ hb2
                      clear hS2 hb2 hq2 HS
                      refine start_ (n:=40) (S:=fun w' => w'.cell? ⟨gF,I.toNat,none⟩ = some (.slice (some ⟨gi,0,none⟩) cur.length ci) ∧ w'.cell? ⟨(adP.add (I.toNat * 3)).block,(adP.add (I.toNat * 3)).off + 1,none⟩ = some (.bool true) ∧ w'.cell? ⟨gF,J1.toNat,none⟩ = some (.slice (some ⟨g1,0,none⟩) row1.length c1) ∧ w'.cell? ⟨g1,K1.toNat,none⟩ = some (.bool b2)) (ds:=[39]) (bz 40 0) (by kernel_rfl) rfl rfl ⟨hx1,hy1,hr1,hb1⟩ (fun hHeld => ?_)
                      refine with_tabW impl_parts.tab9 impl_parts.bits9 (fun HT_ HW_ => ?_)
                      generalize wr.drew = w9 at HS2 HB hx1 hx2 hf2 hr1 hb1 hy1 hHeld ⊢
                      refine pz_ 0 37 1 ?_
                      refine pz_ 1 38 3 ?_
                      refine pz_ 2 39 7 ?_
                      refine pz_ 4 41 23 ?_
                      refine pz_ 5 42 55 ?_
                      refine pz_ 6 43 119 ?_
                      refine pz_ 7 44 247 ?_
                      refine pz_ 8 45 503 ?_
                      refine pz_ 9 46 1015 ?_
                      refine pz_ 10 47 2039 ?_
                      refine pz_ 11 48 4087 ?_
                      refine pz_ 12 49 8183 ?_
                      refine pz_ 13 50 16375 ?_
                      refine tz_ 3 40 16383 ?_
                      refine tz_ 14 51 32767 ?_
                      refine pz_ 15 52 65535 ?_
                      refine uz_ 16 53 131071 ?_
                      refine uz_ 17 54 262143 ?_
                      refine uz_ 18 55 524287 ?_
                      refine uz_ 19 56 1048575 ?_
                      refine uz_ 20 57 2097151 ?_
                      refine uz_ 21 58 4194303 ?_
                      refine uz_ 22 59 8388607 ?_
                      refine uz_ 23 60 16777215 ?_
                      refine uz_ 24 61 33554431 ?_
                      refine pz_ 25 62 67108863 ?_
                      refine pz_ 26 63 134217727 ?_
                      refine pz_ 27 64 268435455 ?_
                      refine pz_ 28 65 536870911 ?_
                      refine pz_ 29 66 1073741823 ?_
                      refine pz_ 30 67 2147483647 ?_
                      refine pz_ 31 68 4294967295 ?_
                      refine pz_ 33 70 12884901887 ?_
                      refine pz_ 34 71 30064771071 ?_
                      refine tz_ 32 69 34359738367 ?_
                      refine pz_ 35 72 68719476735 ?_
                      refine tz_ 36 73 137438953471 ?_
                      refine pz_ 37 74 274877906943 ?_
                      refine pz_ 38 75 549755813887 ?_
                      refine last_ (i:=39) (N:=none) (bz 40 1099511627775) rfl rfl (one_of HT_.out (by kernel_rfl)) (by decide) (fun K hK => ?_)
                      refine skip_ (w1:=?_) (by rfl) rfl ?_ ?_
                      rotate_left
                      · go_simp
                        rfl
                      refine hK.out _ _ ?_
                      clear hK K
                      refine done_ (done_of HT_.out (by kernel_rfl)) ?_
                      try go_wp2
                      go_roundg k
                      case measure => have:=HL2.out;omega
                      case rel => exact ⟨F.set I.toNat (cur.set K.toNat b2),k,cur.set K.toNat b2,int_eq (by have h1_:=HK.out;have h2_:=HKL.out;have h3_:=HZ.out;unfold wrap64;omega),⟨by have:=HKL.out;omega,Nat.le_refl _⟩,⟨by rw [HIT.out,HKT.out];exact tab_put HT2.out HKL.out b2 ((fitP_on HIL.out HST.out).trans (by rw [decide_eq_true (show k < a1.size from HKS.out),Bool.true_and,HAN.out,Bool.true_or,Bool.true_and,HB2.out]))⟩,HS2,⟨below_set HB.out HGE.out⟩⟩
                    | false =>
                      rw [han] at hp1
                      have HAN:=am_ han
                      clear han
                      cases hcm : ((l0[i]'hil).f0 == bt a1 K) with
                      | true =>
                        have HCM:=am_ hcm
                        try go_wp2
                        have n0_:=am_ (Kd.S_drew HS.out)
                        have n1_:=am_ (below_drew1 HB.out)
                        clear HS HB
                        have HS:=n0_
                        have HB:=n1_
                        clear n0_ n1_
                        have hy1:=kp_ HB hp1
                        have hy0:=kp_ HB hp0
                        obtain ⟨gi,ci,hx1,⟨u2,hx2⟩,hf2,hb2,hq2,hS2⟩:=s_put HS.out I K cur HC0.out HCU.out HC1.out HQ6.out b2
                        obtain ⟨g1,c1,hr1,hl1,hC1⟩:=s_row HS.out J1 row1 (of_eq_true p8) HRF.out (by have:=HRL.out;omega)
                        obtain ⟨ad1,ea1,hb1⟩:=Kd.at_bool hC1 K1 (by first|exact HC1.out|(have:=HK1.out;omega)) (by first|exact of_eq_true q9|(have h1_:=HK1.out;have h2_:=HRL.out;have h3_:=HKS.out;omega))
                        cases ea1
                        rw [add_plain] at hb1
                        clear hC1 hl1
                        rw [show rdOf false row1 K1 = b2 from by rw [rdOf,show K1.toNat = k + 1 by have:=HK1.out;omega,List.getD_eq_getElem?_getD,HRA.out (k + 1) (by first|exact HKL.out|exact HKS.out),HB2.out];rfl] at hb1
                        have HS2:=am_ hS2
                        have HGE:=am_ hb2
                        clear hS2 hb2 hq2 HS
                        refine start_ (n:=40) (S:=fun w' => w'.cell? ⟨gF,I.toNat,none⟩ = some (.slice (some ⟨gi,0,none⟩) cur.length ci) ∧ w'.cell? ⟨(adP.add (I.toNat * 3)).block,(adP.add (I.toNat * 3)).off + 1,none⟩ = some (.bool false) ∧ w'.cell? (adP.add (I.toNat * 3)) = some (.int .u8 (l0[i]'hil).f0) ∧ w'.cell? ⟨gF,J1.toNat,none⟩ = some (.slice (some ⟨g1,0,none⟩) row1.length c1) ∧ w'.cell? ⟨g1,K1.toNat,none⟩ = some (.bool b2)) (ds:=[39]) (bz 40 0) (by kernel_rfl) rfl rfl ⟨hx1,hy1,hy0,hr1,hb1⟩ (fun hHeld => ?_)
                        refine with_tabW impl_parts.tab9 impl_parts.bits9 (fun HT_ HW_ => ?_)
                        generalize wr.drew = w9 at HS2 HB hx1 hx2 hf2 hr1 hb1 hy1 hy0 hHeld ⊢
                        refine pz_ 0 37 1 ?_
                        refine pz_ 1 38 3 ?_
                        refine pz_ 2 39 7 ?_
                        refine pz_ 4 41 23 ?_
                        refine pz_ 5 42 55 ?_
                        refine pz_ 6 43 119 ?_
                        refine pz_ 7 44 247 ?_
                        refine pz_ 8 45 503 ?_
                        refine pz_ 9 46 1015 ?_
                        refine pz_ 10 47 2039 ?_
                        refine pz_ 11 48 4087 ?_
                        refine pz_ 12 49 8183 ?_
                        refine pz_ 13 50 16375 ?_
                        refine tz_ 3 40 16383 ?_
                        refine tz_ 14 51 32767 ?_
                        refine pz_ 15 52 65535 ?_
                        refine pz_ 16 53 131071 ?_
                        refine pz_ 17 54 262143 ?_
                        refine pz_ 18 55 524287 ?_
                        refine pz_ 19 56 1048575 ?_
                        refine pz_ 21 58 3145727 ?_
                        refine pz_ 22 59 7340031 ?_
                        refine tz_ 20 57 8388607 ?_
                        refine tz_ 23 60 16777215 ?_
                        refine pz_ 24 61 33554431 ?_
                        refine pz_ 25 62 67108863 ?_
                        refine pz_ 26 63 134217727 ?_
                        refine pz_ 27 64 268435455 ?_
                        refine pz_ 28 65 536870911 ?_
                        refine pz_ 29 66 1073741823 ?_
                        refine pz_ 30 67 2147483647 ?_
                        refine pz_ 31 68 4294967295 ?_
                        refine pz_ 33 70 12884901887 ?_
                        refine pz_ 34 71 30064771071 ?_
                        refine tz_ 32 69 34359738367 ?_
                        refine pz_ 35 72 68719476735 ?_
                        refine tz_ 36 73 137438953471 ?_
                        refine pz_ 37 74 274877906943 ?_
                        refine pz_ 38 75 549755813887 ?_
                        refine last_ (i:=39) (N:=none) (bz 40 1099511627775) rfl rfl (one_of HT_.out (by kernel_rfl)) (by decide) (fun K hK => ?_)
                        refine skip_ (w1:=?_) (by rfl) rfl ?_ ?_
                        rotate_left
                        · go_simp
                          rfl
                        refine hK.out _ _ ?_
                        clear hK K
                        refine done_ (done_of HT_.out (by kernel_rfl)) ?_
                        try go_wp2
                        go_roundg k
                        case measure => have:=HL2.out;omega
                        case rel => exact ⟨F.set I.toNat (cur.set K.toNat b2),k,cur.set K.toNat b2,int_eq (by have h1_:=HK.out;have h2_:=HKL.out;have h3_:=HZ.out;unfold wrap64;omega),⟨by have:=HKL.out;omega,Nat.le_refl _⟩,⟨by rw [HIT.out,HKT.out];exact tab_put HT2.out HKL.out b2 ((fitP_on HIL.out HST.out).trans (by rw [decide_eq_true (show k < a1.size from HKS.out),Bool.true_and,HAN.out,Bool.false_or,HK.out,HCM.out,Bool.true_and,HB2.out]))⟩,HS2,⟨below_set HB.out HGE.out⟩⟩
                      | false =>
                        have HCM:=am_ hcm
                        try go_wp2
                        have n0_:=am_ (Kd.S_drew HS.out)
                        have n1_:=am_ (below_drew1 HB.out)
                        clear HS HB
                        have HS:=n0_
                        have HB:=n1_
                        clear n0_ n1_
                        have hy1:=kp_ HB hp1
                        have hy0:=kp_ HB hp0
                        obtain ⟨gi,ci,hx1,⟨u2,hx2⟩,hf2,hb2,hq2,hS2⟩:=s_put HS.out I K cur HC0.out HCU.out HC1.out HQ6.out false
                        have HS2:=am_ hS2
                        have HGE:=am_ hb2
                        clear hS2 hb2 hq2 HS
                        refine start_ (n:=40) (S:=fun w' => w'.cell? ⟨gF,I.toNat,none⟩ = some (.slice (some ⟨gi,0,none⟩) cur.length ci) ∧ w'.cell? ⟨(adP.add (I.toNat * 3)).block,(adP.add (I.toNat * 3)).off + 1,none⟩ = some (.bool false) ∧ w'.cell? (adP.add (I.toNat * 3)) = some (.int .u8 (l0[i]'hil).f0)) (ds:=[39]) (bz 40 0) (by kernel_rfl) rfl rfl ⟨hx1,hy1,hy0⟩ (fun hHeld => ?_)
                        refine with_tabW impl_parts.tab9 impl_parts.bits9 (fun HT_ HW_ => ?_)
                        generalize wr.drew = w9 at HS2 HB hx1 hx2 hf2 hy1 hy0 hHeld ⊢
                        refine pz_ 0 37 1 ?_
                        refine pz_ 1 38 3 ?_
                        refine pz_ 2 39 7 ?_
                        refine pz_ 4 41 23 ?_
                        refine pz_ 5 42 55 ?_
                        refine pz_ 6 43 119 ?_
                        refine pz_ 7 44 247 ?_
                        refine pz_ 8 45 503 ?_
                        refine pz_ 9 46 1015 ?_
                        refine pz_ 10 47 2039 ?_
                        refine pz_ 11 48 4087 ?_
                        refine pz_ 12 49 8183 ?_
                        refine pz_ 13 50 16375 ?_
                        refine tz_ 3 40 16383 ?_
                        refine tz_ 14 51 32767 ?_
                        refine pz_ 15 52 65535 ?_
                        refine pz_ 16 53 131071 ?_
                        refine pz_ 17 54 262143 ?_
                        refine pz_ 18 55 524287 ?_
                        refine pz_ 19 56 1048575 ?_
                        refine pz_ 21 58 3145727 ?_
                        refine pz_ 22 59 7340031 ?_
                        refine tz_ 20 57 8388607 ?_
                        refine tz_ 23 60 16777215 ?_
                        refine pz_ 24 61 33554431 ?_
                        refine pz_ 25 62 67108863 ?_
                        refine pz_ 26 63 134217727 ?_
                        refine pz_ 27 64 268435455 ?_
                        refine uz_ 28 65 536870911 ?_
                        refine uz_ 29 66 1073741823 ?_
                        refine uz_ 30 67 2147483647 ?_
                        refine uz_ 31 68 4294967295 ?_
                        refine uz_ 32 69 8589934591 ?_
                        refine uz_ 33 70 17179869183 ?_
                        refine uz_ 34 71 34359738367 ?_
                        refine uz_ 35 72 68719476735 ?_
                        refine uz_ 36 73 137438953471 ?_
                        refine pz_ 37 74 274877906943 ?_
                        refine pz_ 38 75 549755813887 ?_
                        refine last_ (i:=39) (N:=none) (bz 40 1099511627775) rfl rfl (one_of HT_.out (by kernel_rfl)) (by decide) (fun K hK => ?_)
                        refine skip_ (w1:=?_) (by rfl) rfl ?_ ?_
                        rotate_left
                        · go_simp
                          rfl
                        refine hK.out _ _ ?_
                        clear hK K
                        refine done_ (done_of HT_.out (by kernel_rfl)) ?_
                        try go_wp2
                        go_roundg k
                        case measure => have:=HL2.out;omega
                        case rel => exact ⟨F.set I.toNat (cur.set K.toNat false),k,cur.set K.toNat false,int_eq (by have h1_:=HK.out;have h2_:=HKL.out;have h3_:=HZ.out;unfold wrap64;omega),⟨by have:=HKL.out;omega,Nat.le_refl _⟩,⟨by rw [HIT.out,HKT.out];exact tab_put HT2.out HKL.out false ((fitP_on HIL.out HST.out).trans (by rw [decide_eq_true (show k < a1.size from HKS.out),Bool.true_and,HAN.out,Bool.false_or,HK.out,HCM.out,Bool.false_and]))⟩,HS2,⟨below_set HB.out HGE.out⟩⟩
                  · have ksb : decide (K < (a1.size : Int)) = false:=decide_eq_false (by have:=HK.out;omega)
                    have HKS2:=am_ ks
                    clear ks
                    try go_wp2
                    have n0_:=am_ (Kd.S_drew HS.out)
                    have n1_:=am_ (below_drew1 HB.out)
                    clear HS HB
                    have HS:=n0_
                    have HB:=n1_
                    clear n0_ n1_
                    obtain ⟨gi,ci,hx1,⟨u2,hx2⟩,hf2,hb2,hq2,hS2⟩:=s_put HS.out I K cur HC0.out HCU.out HC1.out HQ6.out false
                    have HS2:=am_ hS2
                    have HGE:=am_ hb2
                    clear hS2 hb2 hq2 HS
                    refine start_ (n:=40) (S:=fun w' => w'.cell? ⟨gF,I.toNat,none⟩ = some (.slice (some ⟨gi,0,none⟩) cur.length ci)) (ds:=[39]) (bz 40 0) (by kernel_rfl) rfl rfl (hx1) (fun hHeld => ?_)
                    refine with_tabW impl_parts.tab9 impl_parts.bits9 (fun HT_ HW_ => ?_)
                    generalize wr.drew = w9 at HS2 HB hx1 hx2 hf2  hHeld ⊢
                    refine pz_ 0 37 1 ?_
                    refine pz_ 1 38 3 ?_
                    refine pz_ 2 39 7 ?_
                    refine pz_ 4 41 23 ?_
                    refine pz_ 5 42 55 ?_
                    refine pz_ 6 43 119 ?_
                    refine pz_ 7 44 247 ?_
                    refine pz_ 8 45 503 ?_
                    refine pz_ 9 46 1015 ?_
                    refine uz_ 10 47 2039 ?_
                    refine uz_ 11 48 4087 ?_
                    refine uz_ 12 49 8183 ?_
                    refine uz_ 13 50 16375 ?_
                    refine uz_ 14 51 32759 ?_
                    refine uz_ 15 52 65527 ?_
                    refine uz_ 16 53 131063 ?_
                    refine uz_ 17 54 262135 ?_
                    refine uz_ 18 55 524279 ?_
                    refine uz_ 19 56 1048567 ?_
                    refine uz_ 20 57 2097143 ?_
                    refine uz_ 21 58 4194295 ?_
                    refine uz_ 22 59 8388599 ?_
                    refine uz_ 23 60 16777207 ?_
                    refine uz_ 24 61 33554423 ?_
                    refine uz_ 25 62 67108855 ?_
                    refine pz_ 26 63 134217719 ?_
                    refine pz_ 27 64 268435447 ?_
                    refine uz_ 28 65 536870903 ?_
                    refine uz_ 29 66 1073741815 ?_
                    refine uz_ 30 67 2147483639 ?_
                    refine uz_ 31 68 4294967287 ?_
                    refine uz_ 32 69 8589934583 ?_
                    refine uz_ 33 70 17179869175 ?_
                    refine uz_ 34 71 34359738359 ?_
                    refine uz_ 35 72 68719476727 ?_
                    refine uz_ 36 73 137438953463 ?_
                    refine pz_ 37 74 274877906935 ?_
                    refine tz_ 3 40 274877906943 ?_
                    refine pz_ 38 75 549755813887 ?_
                    refine last_ (i:=39) (N:=none) (bz 40 1099511627775) rfl rfl (one_of HT_.out (by kernel_rfl)) (by decide) (fun K hK => ?_)
                    refine skip_ (w1:=?_) (by rfl) rfl ?_ ?_
                    rotate_left
                    · go_simp
                      rfl
                    refine hK.out _ _ ?_
                    clear hK K
                    refine done_ (done_of HT_.out (by kernel_rfl)) ?_
                    try go_wp2
                    go_roundg k
                    case measure => have:=HL2.out;omega
                    case rel => exact ⟨F.set I.toNat (cur.set K.toNat false),k,cur.set K.toNat false,int_eq (by have h1_:=HK.out;have h2_:=HKL.out;have h3_:=HZ.out;unfold wrap64;omega),⟨by have:=HKL.out;omega,Nat.le_refl _⟩,⟨by rw [HIT.out,HKT.out];exact tab_put HT2.out HKL.out false ((fitP_on HIL.out HST.out).trans (by rw [decide_eq_false HKS2.out,Bool.false_and]))⟩,HS2,⟨below_set HB.out HGE.out⟩⟩
        | zero =>
          have c0b : decide (0 ≤ I) = false:=decide_eq_false (by omega)
          clear hI
          obtain ⟨row0,hrow0⟩ : ∃ r_,rowP a1 l0 = r_:=⟨_,rfl⟩
          have HRL:=am_ (show row0.length = a1.size + 1 by rw [← hrow0];exact rowP_len _ _)
          have HR00:=am_ (show row0[0]? = some (fitP a1 l0 0) by rw [← hrow0];exact rowP_at (Nat.zero_le _))
          have HRF:=am_ (show F[(0 : Int).toNat]? = some row0 by rw [← hrow0];exact HT.out.row 0 (Nat.le_refl _) (Nat.zero_le _))
          obtain ⟨g0,c00,hr0,hl0,hC0⟩:=s_row HS.out 0 row0 (Int.le_refl _) HRF.out (by have:=HRL.out;omega)
          obtain ⟨ad0,ea0,hb0⟩:=Kd.at_bool hC0 0 (Int.le_refl _) (by have:=HRL.out;omega)
          cases ea0
          rw [add_plain,show rdOf false row0 0 = fitP a1 l0 0 from by rw [rdOf,Int.toNat_zero,List.getD_eq_getElem?_getD,HR00.out];rfl] at hb0
          rw [Int.toNat_zero] at hr0 hb0
          have q0a : (0 < (nF : Int)) = True:=eq_true (by have:=HNF.out;omega)
          have q0b : (0 < nF) = True:=eq_true (by have:=HNF.out;omega)
          have q0c : (0 < (row0.length : Int)) = True:=eq_true (by have:=HRL.out;omega)
          have q0d : (0 < row0.length) = True:=eq_true (by have:=HRL.out;omega)
          clear hC0 hl0 hrow0
          cases hf : fitP a1 l0 0 with
          | false =>
            rw [hf] at hb0
            obtain ⟨rfl,rfl⟩ : r1 = [] ∧ r2 = false:=by have h:=HF.out;rw [if_neg (by rw [hf];decide)] at h;simp only [Option.some.injEq,Prod.mk.injEq] at h;exact ⟨h.1.symm,h.2.symm⟩
            clear hf
            go_wp2
            go_ret2
            exact ⟨_,rf_,ni_,bl_⟩
          | true =>
            rw [hf] at hb0
            obtain ⟨hr1e,rfl⟩ : partP a1 l0 0 = r1 ∧ true = r2:=by have h:=HF.out;rw [if_pos hf] at h;simp only [Option.some.injEq,Prod.mk.injEq] at h;exact h
            have HR1:=am_ hr1e
            have HFT:=am_ hf
            clear hr1e hf
            go_wp2
            go_loopg [9,10,135] l0.length (fun gg v9 v10 v135 w' => ∃ (o : List ByteArray) (m q : Nat),v10 = .int .i64 (q : Int) ∧ v135 = .int .i64 (m : Int) ∧ Aside0 (m ≤ l0.length ∧ q ≤ a1.size ∧ l0.length - m ≤ gg ∧ o.length ≤ m) ∧ Aside0 (fitP a1 (l0.drop m) q = true) ∧ Aside0 (o ++ partP a1 (l0.drop m) q = r1) ∧ Aside0 (Kd.S (Kd.slice 4 Kd.bool) 88 w' w.heap.size (fun _ => True) (.slice (some ⟨gF,0,none⟩) nF cF) F) ∧ Aside0 (Kd.R Kd.string 9 w' w.heap.size (fun _ => True) v9 o) ∧ Aside0 (Below w.heap.size w w'))
            case atStart => exact ⟨[],0,0,rs_,rs_,⟨⟨Nat.zero_le _,Nat.zero_le _,by omega,Nat.le_refl _⟩⟩,HFT,HR1,⟨sq_ HS⟩,⟨ni_⟩,⟨bl_⟩⟩
            case round =>
              clear HS HB HFT hr0 hb0 HRF
              obtain ⟨o,m,qn,rfl,rfl,HLm,HFm,HRm,HS,HO,HB⟩:=hrel
              obtain ⟨M,hM⟩ : ∃ M : Int,(m : Int) = M:=⟨_,rfl⟩
              obtain ⟨Q,hQ⟩ : ∃ Q : Int,(qn : Int) = Q:=⟨_,rfl⟩
              rw [hM,hQ]
              have HM:=am_ hM
              have HQ:=am_ hQ
              have HMT:=am_ (show M.toNat = m by omega)
              have HQT:=am_ (show Q.toNat = qn by omega)
              by_cases cm : M < (l0.length : Int)
              · have cmb : decide (M < (l0.length : Int)) = true:=decide_eq_true cm
                have hml : m < l0.length:=by omega
                have HML:=am_ hml
                have hm0 : 0 ≤ M:=by omega
                have pM:=eq_true hm0
                have qM:=eq_true cm
                obtain ⟨adP,eP,hp0,hp1,hp2⟩:=at_T108 HR0.out M hm0 cm
                have hrd : rd_T108 l0 M = l0[m]'hml:=by show l0.getD M.toNat _ = _;rw [HMT.out,List.getD_eq_getElem?_getD,List.getElem?_eq_getElem hml];rfl
                rw [hrd] at hp0 hp1 hp2
                cases eP
                clear hrd hm0 cm hM hQ
                have hp0:=kp_ HB hp0
                have hp1:=kp_ HB hp1
                have hp2:=kp_ HB hp2
                obtain ⟨J1,hJ1⟩ : ∃ j_ : Int,wrap64 (M + 1) = j_:=⟨_,rfl⟩
                have hJ1w : IntKind.i64.wrap (M + 1) = J1:=(i64_w _).trans hJ1
                have HJ1:=am_ (show J1 = ((m + 1 : Nat) : Int) by rw [← hJ1];have h1_:=HM.out;have h2_:=HML.out;have h3_:=HZ.out;unfold wrap64;omega)
                cases hst : (l0[m]'hml).f2 with
                | false =>
                  rw [hst] at hp2
                  have HST:=am_ hst
                  clear hst
                  have hfo:=HFm.out
                  rw [fitP_on HML.out HST.out] at hfo
                  simp only [Bool.and_eq_true,decide_eq_true_eq] at hfo
                  have HFN:=am_ hfo.2.2
                  have HQL:=am_ hfo.1
                  clear hfo
                  have HRn:=am_ ((congrArg (o ++ ·) (partP_on HML.out HST.out)).symm.trans HRm.out)
                  go_wp2_with (first|((with_reducible refine gate_dst (N:=12) rfl ?_);refine bx_ 12 #[.int .u8 0,.bool false,.bool false] 108 ?_;intro gx hg w12 hbox hb;have n0_:=am_ (Kd.S_below (show Kd.S (Kd.slice 4 Kd.bool) 88 _ w.heap.size (fun _ => True) (.slice (some ⟨gF,0,none⟩) nF cF) F from sq_ HS) hb);have n1_:=am_ (Kd.R_below (show Kd.R Kd.string 9 _ w.heap.size (fun _ => True) _ o from ro_ HO) hb);have n2_:=am_ (gs_ hg : w.heap.size ≤ gx);have n3_:=am_ (below_step bl_ hb);have BX:=am_ hbox;clear HS HO HB;have HS:=n0_;have HO:=n1_;have HGX:=n2_;have HB:=n3_;clear n0_ n1_ n2_ n3_ hb hbox hg;have hcz1_0:=bc3_0 BX;have hcz1_1:=bc3_1 BX;have hcz1_2:=bc3_2 BX;have hfz1_0:=bf_ BX 0;have hfz1_1:=bf_ BX 1;have hfz1_2:=bf_ BX 2)|((with_reducible refine gate_store (t:=108) (p:=12) rfl ?_);refine store_event (t:=108) (p:=12) (v:=?vo_12) (w1:=(((w12.setCell ⟨gx,0,none⟩ (.int .u8 (l0[m]'hml).f0)).setCell ⟨gx,1,none⟩ (.bool (l0[m]'hml).f1)).setCell ⟨gx,2,none⟩ (.bool false))) ?hg ?ho ?hn ?hr ?_;(case ho => rfl);(case hg => rfl);(case hn => rfl);(case hr => first|(go_simp;done)|(go_simp;rfl));intro w13 hw;have hs1_:=Kd.S_types (show Kd.S (Kd.slice 4 Kd.bool) 88 _ w.heap.size (fun _ => True) (.slice (some ⟨gF,0,none⟩) nF cF) F from sq_ HS) BX.out (by decide);have hs2_:=Kd.R_types (show Kd.R Kd.string 9 _ w.heap.size (fun _ => True) _ o from ro_ HO) BX.out (by decide);have n0_:=am_ (show Kd.S (Kd.slice 4 Kd.bool) 88 w13 w.heap.size (fun _ => True) (.slice (some ⟨gF,0,none⟩) nF cF) F from by rw [hw];exact Kd.S_mono (Kd.S_far (p:=⟨gx,2,none⟩) (Kd.S_far (p:=⟨gx,1,none⟩) (Kd.S_far (p:=⟨gx,0,none⟩) hs1_ (fun _ hk => hk.2) _) (fun _ hk => hk.2) _) (fun _ hk => hk.2) _) (fun _ _ => trivial));have n1_:=am_ (show Kd.R Kd.string 9 w13 w.heap.size (fun _ => True) u9 o from by rw [hw];exact Kd.R_mono (Kd.R_far (p:=⟨gx,2,none⟩) (Kd.R_far (p:=⟨gx,1,none⟩) (Kd.R_far (p:=⟨gx,0,none⟩) hs2_ (fun _ hk => hk.2) _) (fun _ hk => hk.2) _) (fun _ hk => hk.2) _) (fun _ _ => trivial));have n2_:=am_ (show w13.heap[gx]? = some (.cells #[.int .u8 (l0[m]'hml).f0,.bool (l0[m]'hml).f1,.bool false] 108 (0,0)) from by rw [hw];exact blk_put (cs:=#[.int .u8 (l0[m]'hml).f0,.bool (l0[m]'hml).f1,.bool false]) (blk_put (cs:=#[.int .u8 (l0[m]'hml).f0,.bool false,.bool false]) (blk_put (cs:=#[.int .u8 0,.bool false,.bool false]) BX.out 0 _ rfl) 1 _ rfl) 2 _ rfl);have n3_:=am_ (show Below w.heap.size w w13 from by rw [hw];exact below_set (below_set (below_set HB.out HGX.out) HGX.out) HGX.out);clear HS HO BX HB hs1_ hs2_ hcz1_0 hcz1_1 hcz1_2 hfz1_0 hfz1_1 hfz1_2;have HS:=n0_;have HO:=n1_;have BX:=n2_;have HB:=n3_;clear n0_ n1_ n2_ n3_ hw;have hcz1_2:=bc3_2 BX))
                  go_roundg (l0.length - (m + 1))
                  case measure => have h1_:=HLm.out;have h2_:=HML.out;omega
                  case rel => exact ⟨o,m + 1,qn + 1,int_eq (by have h1_:=HQ.out;have h2_:=HQL.out;have h3_:=HZ.out;unfold wrap64;omega),int_eq (by have:=HJ1.out;omega),⟨by have h1_:=HLm.out;have h2_:=HML.out;have h3_:=HQL.out;omega⟩,HFN,HRn,⟨sq_ HS⟩,⟨ro_ HO⟩,⟨bl_⟩⟩
                | true =>
                  rw [hst] at hp2
                  have HST:=am_ hst
                  clear hst
                  have HFS:=am_ ((fitP_star HML.out HST.out).symm.trans HFm.out)
                  have HRn:=am_ ((congrArg (o ++ ·) (partP_star HML.out HST.out)).symm.trans HRm.out)
                  obtain ⟨nx,hnx⟩ : ∃ n_,nxtF (fitP a1 (l0.drop (m + 1))) (a1.size - qn) qn = n_:=⟨_,rfl⟩
                  rw [hnx] at HRn
                  have HNX:=am_ hnx
                  clear hnx
                  obtain ⟨row1,hrow1⟩ : ∃ r_,rowP a1 (l0.drop (m + 1)) = r_:=⟨_,rfl⟩
                  have HRL:=am_ (show row1.length = a1.size + 1 by rw [← hrow1];exact rowP_len _ _)
                  have HRA:=am_ (show ∀ q,q ≤ a1.size → row1[q]? = some (fitP a1 (l0.drop (m + 1)) q) from fun q hq => by rw [← hrow1];exact rowP_at hq)
                  have HRF:=am_ (show F[J1.toNat]? = some row1 by rw [show J1.toNat = m + 1 by have:=HJ1.out;omega,HT.out.row (m + 1) (Nat.zero_le _) hml,hrow1])
                  clear hrow1
                  have p8 : (0 ≤ J1) = True:=eq_true (by have:=HJ1.out;omega)
                  have q8 : (J1 < (nF : Int)) = True:=eq_true (by have h1_:=HJ1.out;have h2_:=HNF.out;omega)
                  go_wp2_with (first|((with_reducible refine gate_dst (N:=12) rfl ?_);refine bx_ 12 #[.int .u8 0,.bool false,.bool false] 108 ?_;intro gx hg w12 hbox hb;have n0_:=am_ (Kd.S_below (show Kd.S (Kd.slice 4 Kd.bool) 88 _ w.heap.size (fun _ => True) (.slice (some ⟨gF,0,none⟩) nF cF) F from sq_ HS) hb);have n1_:=am_ (Kd.R_below (show Kd.R Kd.string 9 _ w.heap.size (fun _ => True) _ o from ro_ HO) hb);have n2_:=am_ (gs_ hg : w.heap.size ≤ gx);have n3_:=am_ (below_step bl_ hb);have BX:=am_ hbox;clear HS HO HB;have HS:=n0_;have HO:=n1_;have HGX:=n2_;have HB:=n3_;clear n0_ n1_ n2_ n3_ hb hbox hg;have hcz1_0:=bc3_0 BX;have hcz1_1:=bc3_1 BX;have hcz1_2:=bc3_2 BX;have hfz1_0:=bf_ BX 0;have hfz1_1:=bf_ BX 1;have hfz1_2:=bf_ BX 2)|((with_reducible refine gate_store (t:=108) (p:=12) rfl ?_);refine store_event (t:=108) (p:=12) (v:=?vo_12) (w1:=(((w12.setCell ⟨gx,0,none⟩ (.int .u8 (l0[m]'hml).f0)).setCell ⟨gx,1,none⟩ (.bool (l0[m]'hml).f1)).setCell ⟨gx,2,none⟩ (.bool true))) ?hg ?ho ?hn ?hr ?_;(case ho => rfl);(case hg => rfl);(case hn => rfl);(case hr => first|(go_simp;done)|(go_simp;rfl));intro w13 hw;have hs1_:=Kd.S_types (show Kd.S (Kd.slice 4 Kd.bool) 88 _ w.heap.size (fun _ => True) (.slice (some ⟨gF,0,none⟩) nF cF) F from sq_ HS) BX.out (by decide);have hs2_:=Kd.R_types (show Kd.R Kd.string 9 _ w.heap.size (fun _ => True) _ o from ro_ HO) BX.out (by decide);have n0_:=am_ (show Kd.S (Kd.slice 4 Kd.bool) 88 w13 w.heap.size (fun _ => True) (.slice (some ⟨gF,0,none⟩) nF cF) F from by rw [hw];exact Kd.S_mono (Kd.S_far (p:=⟨gx,2,none⟩) (Kd.S_far (p:=⟨gx,1,none⟩) (Kd.S_far (p:=⟨gx,0,none⟩) hs1_ (fun _ hk => hk.2) _) (fun _ hk => hk.2) _) (fun _ hk => hk.2) _) (fun _ _ => trivial));have n1_:=am_ (show Kd.R Kd.string 9 w13 w.heap.size (fun _ => True) u9 o from by rw [hw];exact Kd.R_mono (Kd.R_far (p:=⟨gx,2,none⟩) (Kd.R_far (p:=⟨gx,1,none⟩) (Kd.R_far (p:=⟨gx,0,none⟩) hs2_ (fun _ hk => hk.2) _) (fun _ hk => hk.2) _) (fun _ hk => hk.2) _) (fun _ _ => trivial));have n2_:=am_ (show w13.heap[gx]? = some (.cells #[.int .u8 (l0[m]'hml).f0,.bool (l0[m]'hml).f1,.bool true] 108 (0,0)) from by rw [hw];exact blk_put (cs:=#[.int .u8 (l0[m]'hml).f0,.bool (l0[m]'hml).f1,.bool false]) (blk_put (cs:=#[.int .u8 (l0[m]'hml).f0,.bool false,.bool false]) (blk_put (cs:=#[.int .u8 0,.bool false,.bool false]) BX.out 0 _ rfl) 1 _ rfl) 2 _ rfl);have n3_:=am_ (show Below w.heap.size w w13 from by rw [hw];exact below_set (below_set (below_set HB.out HGX.out) HGX.out) HGX.out);clear HS HO BX HB hs1_ hs2_ hcz1_0 hcz1_1 hcz1_2 hfz1_0 hfz1_1 hfz1_2;have HS:=n0_;have HO:=n1_;have BX:=n2_;have HB:=n3_;clear n0_ n1_ n2_ n3_ hw;have hcz1_2:=bc3_2 BX))
                  go_loopg [13] a1.size (fun gg v13 w' => ∃ (nn : Nat),v13 = .int .i64 (nn : Int) ∧ Aside0 (qn ≤ nn ∧ nn ≤ a1.size ∧ a1.size - nn ≤ gg) ∧ Aside0 (starF (fitP a1 (l0.drop (m + 1))) (a1.size - nn) nn = true) ∧ Aside0 (nxtF (fitP a1 (l0.drop (m + 1))) (a1.size - nn) nn = nx) ∧ Aside0 (Kd.S (Kd.slice 4 Kd.bool) 88 w' w.heap.size (fun _ => True) (.slice (some ⟨gF,0,none⟩) nF cF) F) ∧ Aside0 (Kd.R Kd.string 9 w' w.heap.size (fun _ => True) u9 o) ∧ Aside0 (Below w.heap.size w w'))
                  case atStart => exact ⟨qn,int_eq HQ.out.symm,⟨by have:=HLm.out;omega⟩,HFS,HNX,⟨sq_ HS⟩,⟨ro_ HO⟩,⟨bl_⟩⟩
                  case round =>
                    clear HS HO HB HFS HNX BX hcz1_2
                    obtain ⟨nn,rfl,HLn,HSt,HNx,HS,HO,HB⟩:=hrel
                    obtain ⟨K,hK⟩ : ∃ K : Int,(nn : Int) = K:=⟨_,rfl⟩
                    rw [hK]
                    have HK:=am_ hK
                    have HKT:=am_ (show K.toNat = nn by omega)
                    have HC1:=am_ (show 0 ≤ K by omega)
                    have HKL:=am_ (show nn ≤ a1.size from HLn.out.2.1)
                    clear hK
                    have p6:=eq_true HC1.out
                    have q9 : (K < (row1.length : Int)) = True:=eq_true (by have h1_:=HRL.out;have h2_:=HKL.out;have h3_:=HK.out;omega)
                    obtain ⟨g1,c1,hr1,hl1,hC1⟩:=s_row HS.out J1 row1 (of_eq_true p8) HRF.out (by have:=HRL.out;omega)
                    obtain ⟨ad1,ea1,hb1⟩:=Kd.at_bool hC1 K (by first|exact HC1.out|(have:=HK1.out;omega)) (by first|exact of_eq_true q9|(have h1_:=HK1.out;have h2_:=HRL.out;have h3_:=HKS.out;omega))
                    cases ea1
                    rw [add_plain] at hb1
                    clear hC1 hl1
                    cases hb : fitP a1 (l0.drop (m + 1)) nn with
                    | false =>
                      rw [show rdOf false row1 K = false from by rw [rdOf,HKT.out,List.getD_eq_getElem?_getD,HRA.out nn HKL.out,hb];rfl] at hb1
                      have HNL:=am_ (show nn < a1.size from (Nat.lt_or_ge nn a1.size).elim (fun h_ => h_) (fun h_ => by have h2_:=HSt.out;rw [starF_end (by omega),hb] at h2_;cases h2_))
                      have HSt2:=am_ (show starF (fitP a1 (l0.drop (m + 1))) (a1.size - (nn + 1)) (nn + 1) = true from by have h2_:=HSt.out;rw [starF_on HNL.out,hb,Bool.false_or] at h2_;exact h2_)
                      have HNx2:=am_ (show nxtF (fitP a1 (l0.drop (m + 1))) (a1.size - (nn + 1)) (nn + 1) = nx from by have h2_:=HNx.out;rw [show a1.size - nn = (a1.size - (nn + 1)) + 1 from by have:=HNL.out;omega] at h2_;simp only [nxtF] at h2_;rw [if_neg (by rw [hb];decide)] at h2_;exact h2_)
                      clear hb
                      go_wp2
                      go_roundg (a1.size - (nn + 1))
                      case measure => have h1_:=HLn.out;have h2_:=HNL.out;omega
                      case rel => exact ⟨nn + 1,int_eq (by have h1_:=HK.out;have h2_:=HKL.out;have h3_:=HZ.out;unfold wrap64;omega),⟨by have h1_:=HLn.out;have h2_:=HNL.out;omega⟩,HSt2,HNx2,⟨sq_ HS⟩,⟨ro_ HO⟩,⟨bl_⟩⟩
                    | true =>
                      rw [show rdOf false row1 K = true from by rw [rdOf,HKT.out,List.getD_eq_getElem?_getD,HRA.out nn HKL.out,hb];rfl] at hb1
                      obtain rfl : nx = nn:=by have h2_:=HNx.out;cases h3_ : a1.size - nn with|zero => rw [h3_] at h2_;exact h2_.symm|succ d_ => rw [h3_] at h2_;simp only [nxtF] at h2_;rw [if_pos hb] at h2_;exact h2_.symm
                      have HFN:=am_ hb
                      clear hb
                      have pQ0 : (0 ≤ Q) = True:=eq_true (by have:=HQ.out;omega)
                      have pQK : (Q ≤ K) = True:=eq_true (by have h1_:=HQ.out;have h2_:=HK.out;have h3_:=HLn.out;omega)
                      have pKs : (K ≤ (a1.size : Int)) = True:=eq_true (by have h2_:=HK.out;have h3_:=HKL.out;omega)
                      go_wp2_with (first|((with_reducible refine gate_builtin (b:=.append) (xs:=#[.tmp 157,.tmp 162]) rfl ?_);at_builtin;refine Kd.R_append Kd.string (w0:=w) w.heap.size rfl (.tmp 157) (.tmp 162) 23 9 (.string ⟨#[]⟩) 16 rfl Tryz.underlying23 iT rfl (by decide) (by omega) u9 o (a1.extract Q.toNat K.toNat) [.string (a1.extract Q.toNat K.toNat)] (fun _ => True) (fun _ => False) rfl rfl ?aP (fun _ hk => hk.elim) ?aF ?aO ?aB ?aS ?aL ?_;(case aP => exact rfl);(case aB => exact bl_);(case aF => exact (fun _ _ => trivial));(case aO => exact (ro_ HO));(case aS => exact (below_size bl_));(case aL => have h1_:=HLm.out;have h2_:=HZ.out;omega);intro v163 w163 ho hb hg hat;have n0_:=am_ (s_over (show Kd.S (Kd.slice 4 Kd.bool) 88 _ w.heap.size (fun _ => True) (.slice (some ⟨gF,0,none⟩) nF cF) F from sq_ HS) (Kd.R_typed (show Kd.R Kd.string 9 _ w.heap.size (fun _ => True) u9 o from ro_ HO)) (by decide) hg);have n1_:=am_ hb;have n2_:=am_ ho;clear HS HB HO;have HS:=n0_;have HB:=n1_;have HO:=n2_;clear n0_ n1_ n2_ ho hb hg hat))
                      go_roundg (l0.length - (m + 1))
                      case measure => have h1_:=HLm.out;have h2_:=HML.out;omega
                      case rel => exact ⟨o ++ [a1.extract Q.toNat K.toNat],m + 1,nx,int_eq HK.out.symm,int_eq (by have:=HJ1.out;omega),⟨by have h1_:=HLm.out;have h2_:=HML.out;have h3_:=HKL.out;rw [List.length_append,List.length_singleton];omega⟩,HFN,⟨by rw [HQT.out,HKT.out,List.append_assoc];exact HRn.out⟩,⟨sq_ HS⟩,⟨ro_ HO⟩,⟨bl_⟩⟩
              · have cmb : decide (M < (l0.length : Int)) = false:=decide_eq_false cm
                obtain rfl : r1 = o:=by have h_:=HRm.out;rw [List.drop_eq_nil_of_le (by omega)] at h_;exact (h_.symm.trans (List.append_nil o))
                clear cm hM hQ
                go_wp2
                go_ret2
                exact ⟨_,rf_,ro_ HO,bl_⟩
    · rw [if_neg z2] at h
      cases h
  · rw [if_neg z1] at h
    cases h
end Go.Proofs.YtacaelfdmlegdaaGreatDoor.Pr
