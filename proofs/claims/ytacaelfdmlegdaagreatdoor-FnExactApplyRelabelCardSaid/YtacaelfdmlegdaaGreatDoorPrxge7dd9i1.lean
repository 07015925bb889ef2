/- Functions of the given program as plain Lean functions, and that the machine's calls come to them; written by a program of this session; no condition but those that each theorem states. -/
import Derived.Test.YtacaelfdmlegdaaGreatDoorPrx0
import Derived.Test.YtacaelfdmlegdaaGreatDoorPrxg4cbd6i1
import Derived.Test.YtacaelfdmlegdaaGreatDoorPrxg4cbd6i2
import Derived.Test.YtacaelfdmlegdaaGreatDoorPrxg4cbd6i3
set_option maxHeartbeats 8000000
set_option maxRecDepth 100000
namespace Go.Proofs.YtacaelfdmlegdaaGreatDoor.Pr
open Go.RowKit Go.Proofs.YtacaelfdmlegdaaGreatDoorW.PrintWords Go.Proofs.YtacaelfdmlegdaaGreatDoorW.PrintLast Go.Proofs.YtacaelfdmlegdaaGreatDoorW.PrintMore
attribute [local go_sem] max2_int min2_int max_two min_two max_three min_three max_four min_four
set_option linter.unusedVariables false
set_option linter.unusedSimpArgs false
def impl_ApplyRelabel.j0 : Nat → List (S53) → Bool → Int → List ByteArray → ByteArray → ByteArray → ByteArray → ByteArray → Int → Option ((List (S53)) × Bool)
 | 0,_,_,_,_,_,_,_,_,_ => none
 | k + 1,x0,x15,x1002000,x1002001,x1002002,x1002003,x1002004,x1002005,x1002006 => if x15 = true then (some (([] : List (S53)),false)) else ((impl_relabel.f k x0 x1002000 x1002001 x1002002 x1002003 x1002004 x1002005 x1002006).bind fun bt1004 => (if bt1004.2 = true then (some (bt1004.1,true)) else (some (([] : List (S53)),false))))
def impl_ApplyRelabel.f (k : Nat) (l0 : List (S53)) (a1_0 : Int) (l1_1 : List ByteArray) (a1_2 : ByteArray) (a1_3 : ByteArray) (a1_4 : ByteArray) (a1_5 : ByteArray) (a1_6 : Int) : Option ((List (S53)) × Bool):=(impl_GoodLabels.f k l0).bind fun t1002 => (if t1002 = true then ((impl_GoodRelabel.f k a1_0 l1_1 a1_2 a1_3 a1_4 a1_5 a1_6).bind fun t1003 => (impl_ApplyRelabel.j0 k l0 (!t1003) a1_0 l1_1 a1_2 a1_3 a1_4 a1_5 a1_6)) else (impl_ApplyRelabel.j0 k l0 true a1_0 l1_1 a1_2 a1_3 a1_4 a1_5 a1_6))
theorem impl_ApplyRelabel.mono_l : ∀ k,(∀ y0 y1 y2 y3 y4 y5 y6 y7 y8,LeO (impl_ApplyRelabel.j0 k y0 y1 y2 y3 y4 y5 y6 y7 y8) (impl_ApplyRelabel.j0 (k + 1) y0 y1 y2 y3 y4 y5 y6 y7 y8))
 | 0 => fun _ _ _ _ _ _ _ _ _ r h => by simp [impl_ApplyRelabel.j0] at h
 | k + 1 => by
  have ih0:=impl_ApplyRelabel.mono_l k
  ·intro y0 y1 y2 y3 y4 y5 y6 y7 y8
   unfold impl_ApplyRelabel.j0
   repeat' with_reducible first|apply ih0|apply impl_GoodLabels.mono|apply impl_GoodRelabel.mono|apply impl_relabel.mono|apply LeO.refl|apply LeO.none|apply LeO.ite|refine LeO.bind ?_ (fun _ => ?_)
theorem impl_ApplyRelabel.mono : ∀ a0 a1 a2 a3 a4 a5 a6 a7 k,LeO (impl_ApplyRelabel.f k a0 a1 a2 a3 a4 a5 a6 a7) (impl_ApplyRelabel.f (k + 1) a0 a1 a2 a3 a4 a5 a6 a7):=by
 intro a0 a1 a2 a3 a4 a5 a6 a7 k
 have ih0:=impl_ApplyRelabel.mono_l k
 unfold impl_ApplyRelabel.f
 repeat' with_reducible first|apply ih0|apply impl_GoodLabels.mono|apply impl_GoodRelabel.mono|apply impl_relabel.mono|apply LeO.refl|apply LeO.none|apply LeO.ite|refine LeO.bind ?_ (fun _ => ?_)
theorem impl_ApplyRelabel.calls (k : Nat) (A0 : Option Addr) (c0 : Nat) (l0 : List (S53)) (a1_0 : Int) (A1_1 : Option Addr) (c1_1 : Nat) (l1_1 : List ByteArray) (a1_2 : ByteArray) (a1_3 : ByteArray) (a1_4 : ByteArray) (a1_5 : ByteArray) (a1_6 : Int) (r1 : List (S53)) (r2 : Bool) (w : World) (hr0 : Kd.C k53 w A0 l0.length l0) (hc0 : l0.length ≤ c0) (hr1_1 : Kd.C Kd.string w A1_1 l1_1.length l1_1) (hc1_1 : l1_1.length ≤ c1_1) (h : impl_ApplyRelabel.f k l0 a1_0 l1_1 a1_2 a1_3 a1_4 a1_5 a1_6 = some (r1,r2)) (hT1 : Tg1 w:=by exact Tg1.below hT1 bg_) :
  Calls Tryz.prog 10 #[.slice A0 l0.length c0,.agg #[.int .i64 a1_0,.slice A1_1 l1_1.length c1_1,.string a1_2,.string a1_3,.string a1_4,.string a1_5,.int .i64 a1_6]] w fun e w' => ∃ v0_ : Value,e = .returned (.tuple #[v0_,.bool r2]) ∧ Kd.R k53 53 w' w.heap.size (fun _ => True) v0_ r1 ∧ Below w.heap.size w w':=by
 have hu32:=Tryz.underlying32;have HR0:=am_ hr0;have HC0:=am_ hc0;clear hr0 hc0;have HR1_1:=am_ hr1_1;have HC1_1:=am_ hc1_1;clear hr1_1 hc1_1;have HB:=am_ (Below.refl w.heap.size w);have H : ((impl_GoodLabels.f k l0).bind fun t1002 => (if t1002 = true then ((impl_GoodRelabel.f k a1_0 l1_1 a1_2 a1_3 a1_4 a1_5 a1_6).bind fun t1003 => (impl_ApplyRelabel.j0 k l0 (!t1003) a1_0 l1_1 a1_2 a1_3 a1_4 a1_5 a1_6)) else (impl_ApplyRelabel.j0 k l0 true a1_0 l1_1 a1_2 a1_3 a1_4 a1_5 a1_6))) = some (r1,r2):=h;clear h;have HC3:=am_ H;clear H;go_enter Tryz.func10,Tryz.ntmps10;go_upto_region 1 with (first|((with_reducible refine gate_dst (N:=3) rfl ?_);refine bx_ 3 #[.int .i64 a1_0,.slice A1_1 l1_1.length c1_1,.string a1_2,.string a1_3,.string a1_4,.string a1_5,.int .i64 a1_6] 32 ?_;intro gb1001 hg w4 hbox hb;have BK1001:=am_ (hbox);have GW1001:=am_ (gs_ hg : w.heap.size ≤ gb1001);replace HB:=am_ (below_step bl_ hb);have GE1001:=GW1001;clear hb hbox hg));(try simp only [Act.put,List.setIfInBounds_toArray,List.set_cons_zero,List.set_cons_succ])
 go_cut [15] (fun v15 wc => ∃ (kq : Nat) (x15_2 : Bool),v15 = .bool x15_2 ∧ Aside0 (impl_ApplyRelabel.j0 kq l0 x15_2 a1_0 l1_1 a1_2 a1_3 a1_4 a1_5 a1_6 = some (r1,r2)) ∧ Aside0 (kq ≤ k) ∧ Aside0 (wc.heap[gb1001]? = some (.cells #[.int .i64 a1_0,(.slice A1_1 l1_1.length c1_1),.string a1_2,.string a1_3,.string a1_4,.string a1_5,.int .i64 a1_6] 32 (0,0))) ∧ Aside0 (Below w.heap.size w wc))
 case first =>
  have H:=HC3.out;clear HC3;replace H:=Option.bind_eq_some_iff.mp H;obtain ⟨t1002,A50,H⟩:=H;replace H : (if t1002 = true then ((impl_GoodRelabel.f k a1_0 l1_1 a1_2 a1_3 a1_4 a1_5 a1_6).bind fun t1003 => (impl_ApplyRelabel.j0 k l0 (!t1003) a1_0 l1_1 a1_2 a1_3 a1_4 a1_5 a1_6)) else (impl_ApplyRelabel.j0 k l0 true a1_0 l1_1 a1_2 a1_3 a1_4 a1_5 a1_6)) = some (r1,r2):=H;have A5:=am_ A50;clear A50
  by_cases c6 : t1002 = true
  ·subst c6;replace H:=it_ H;replace H:=Option.bind_eq_some_iff.mp H;obtain ⟨t1003,A70,H⟩:=H;replace H : (impl_ApplyRelabel.j0 k l0 (!t1003) a1_0 l1_1 a1_2 a1_3 a1_4 a1_5 a1_6) = some (r1,r2):=H;have A7:=am_ A70;clear A70;have H':=am_ H;clear H;go_wp2_with (first|((with_reducible refine gate_callee (f:=29) rfl ?_);refine gl_ 9 Tryz.func29 #[.slice A0 l0.length c0] ?_;(with_reducible refine (impl_GoodLabels.calls k _ _ l0 true _ ?side1 ?side2 A5.out).mono ?_);(case side1 => exact cc_ (Kd.C_below HR0.out HB.out));(case side2 => exact HC0.out);rintro e w8 ⟨rfl,hb⟩;refine ⟨_,rfl,?_⟩;replace BK1001:=vb_ BK1001 hb;replace HB:=am_ (below_step bg_ hb);(try clear hb);have hz9:=bk7_ BK1001)|(go_at_call 30;(with_reducible refine (impl_GoodRelabel.calls k a1_0 _ _ l1_1 a1_2 a1_3 a1_4 a1_5 a1_6 t1003 _ ?side1 ?side2 A7.out).mono ?_);(case side1 => exact cc_ (Kd.C_below HR1_1.out HB.out));(case side2 => exact HC1_1.out);rintro e w10 ⟨rfl,hb⟩;replace BK1001:=vb_ BK1001 hb;replace HB:=am_ (below_step bg_ hb);(try clear hb)));go_meet
   case rel => exact ⟨_,(!t1003),rs_,H',⟨by first|omega|exact Nat.le_refl _⟩,⟨vk_ BK1001⟩,⟨bg_⟩⟩
  ·replace c6:=Bool.eq_false_iff.mpr c6;subst c6;replace H:=if_ H;have H':=am_ H;clear H;go_wp2_with (first|((with_reducible refine gate_callee (f:=29) rfl ?_);refine gl_ 9 Tryz.func29 #[.slice A0 l0.length c0] ?_;(with_reducible refine (impl_GoodLabels.calls k _ _ l0 false _ ?side1 ?side2 A5.out).mono ?_);(case side1 => exact cc_ (Kd.C_below HR0.out HB.out));(case side2 => exact HC0.out);rintro e w11 ⟨rfl,hb⟩;refine ⟨_,rfl,?_⟩;replace BK1001:=vb_ BK1001 hb;replace HB:=am_ (below_step bg_ hb);(try clear hb)));go_meet
   case rel => exact ⟨_,(true),rs_,H',⟨by first|omega|exact Nat.le_refl _⟩,⟨vk_ BK1001⟩,⟨bg_⟩⟩
 case rest =>
  clear HC3;obtain ⟨kq,x15_2,rfl,HA,HJ2,BK1001,HB⟩:=hcut
  cases kq with
  | zero => exact absurd HA.out (by simp [impl_ApplyRelabel.j0])
  | succ kj2 =>
   have H:=HA.out;clear HA;simp only [impl_ApplyRelabel.j0] at H
   by_cases c12 : x15_2 = true
   ·subst c12;replace H:=it_ H;simp only [Option.some.injEq,Prod.mk.injEq] at H;obtain ⟨rfl,rfl⟩:=H;go_wp2;go_ret2;exact ⟨_,rf_,ni_,bg_⟩
   ·replace c12:=Bool.eq_false_iff.mpr c12;subst c12;replace H:=if_ H;replace H:=Option.bind_eq_some_iff.mp H;obtain ⟨⟨t1004,t1007⟩,A130,H⟩:=H;replace H : (if t1007 = true then (some (t1004,true)) else (some (([] : List (S53)),false))) = some (r1,r2):=H;have A13:=am_ A130;clear A130
    by_cases c14 : t1007 = true
    ·subst c14;replace H:=it_ H;simp only [Option.some.injEq,Prod.mk.injEq] at H;obtain ⟨rfl,rfl⟩:=H;have hz15:=bk7_ BK1001;go_wp2_with (first|((with_reducible refine gate_callee (f:=31) rfl ?_);refine gl_ 19 Tryz.func31 #[.slice A0 l0.length c0,.agg #[.int .i64 a1_0,.slice A1_1 l1_1.length c1_1,.string a1_2,.string a1_3,.string a1_4,.string a1_5,.int .i64 a1_6]] ?_;(with_reducible refine (impl_relabel.calls kj2 _ _ l0 a1_0 _ _ l1_1 a1_2 a1_3 a1_4 a1_5 a1_6 t1004 true _ ?side1 ?side2 ?side3 ?side4 A13.out).mono ?_);(case side1 => exact cc_ (Kd.C_below HR0.out HB.out));(case side2 => exact HC0.out);(case side3 => exact cc_ (Kd.C_below HR1_1.out HB.out));(case side4 => exact HC1_1.out);rintro e w16 ⟨v1005,rfl,ho0,hb⟩;refine ⟨_,rfl,?_⟩;have HO1006:=am_ (Kd.R_lower ho0 (below_size bg_));replace BK1001:=vb_ BK1001 hb;replace HB:=am_ (below_step bg_ hb);(try clear hb);(try clear ho0)));go_ret2;exact ⟨_,rf_,by (with_reducible repeat (first|apply Kd.R_alloc|apply Kd.R_drewN|apply Kd.R_drew));exact HO1006.out,bg_⟩
    ·replace c14:=Bool.eq_false_iff.mpr c14;subst c14;replace H:=if_ H;simp only [Option.some.injEq,Prod.mk.injEq] at H;obtain ⟨rfl,rfl⟩:=H;have hz17:=bk7_ BK1001;go_wp2_with (first|((with_reducible refine gate_callee (f:=31) rfl ?_);refine gl_ 19 Tryz.func31 #[.slice A0 l0.length c0,.agg #[.int .i64 a1_0,.slice A1_1 l1_1.length c1_1,.string a1_2,.string a1_3,.string a1_4,.string a1_5,.int .i64 a1_6]] ?_;(with_reducible refine (impl_relabel.calls kj2 _ _ l0 a1_0 _ _ l1_1 a1_2 a1_3 a1_4 a1_5 a1_6 t1004 false _ ?side1 ?side2 ?side3 ?side4 A13.out).mono ?_);(case side1 => exact cc_ (Kd.C_below HR0.out HB.out));(case side2 => exact HC0.out);(case side3 => exact cc_ (Kd.C_below HR1_1.out HB.out));(case side4 => exact HC1_1.out);rintro e w18 ⟨v1005,rfl,ho0,hb⟩;refine ⟨_,rfl,?_⟩;have HO1006:=am_ (Kd.R_lower ho0 (below_size bg_));replace BK1001:=vb_ BK1001 hb;replace HB:=am_ (below_step bg_ hb);(try clear hb);(try clear ho0)));go_ret2;exact ⟨_,rf_,ni_,bg_⟩
end Go.Proofs.YtacaelfdmlegdaaGreatDoor.Pr
