/- Functions of the given program as plain Lean functions, and that the machine's calls come to them; written by a program of this session; no condition but those that each theorem states. -/
import Derived.Test.YtacaelfdmlegdaaGreatDoorPrx0
import Derived.Test.YtacaelfdmlegdaaGreatDoorPrxg4cbd6i1
import Derived.Test.YtacaelfdmlegdaaGreatDoorPrxg4cbd6i2
import Derived.Test.YtacaelfdmlegdaaGreatDoorPrxg4cbd6i3
set_option maxHeartbeats 8000000
set_option maxRecDepth 100000
namespace Go.Proofs.YtacaelfdmlegdaaGreatDoor.Pr
open Go.RowKit Go.Proofs.YtacaelfdmlegdaaGreatDoorW.PrintWords Go.Proofs.YtacaelfdmlegdaaGreatDoorW.PrintLast Go.Proofs.YtacaelfdmlegdaaGreatDoorW.PrintMore
attribute [local go_sem] max2_int min2_int max_two min_two max_three min_three max_four min_four
set_option linter.unusedVariables false
set_option linter.unusedSimpArgs false
def impl_Relabel_75.l0 (P : S32 → Option Bool) (l0 : List (S32)) : Nat → Int → Option Int
 | 0,_ => none
 | k + 1,x8 => if x8 < (l0.length : Int) then (if 0 ≤ x8 then ((P (⟨(rd_T32 l0 x8).f0,(rd_T32 l0 x8).f1,(rd_T32 l0 x8).f2,(rd_T32 l0 x8).f3,(rd_T32 l0 x8).f4,(rd_T32 l0 x8).f5,(rd_T32 l0 x8).f6⟩ : S32)).bind fun b => if b = true then some x8 else impl_Relabel_75.l0 P l0 k (wrap64 (x8 + 1))) else none) else some (-1)
def impl_Relabel_75.f (k : Nat) (P : S32 → Option Bool) (l0 : List (S32)) : Option Int:=impl_Relabel_75.l0 P l0 k 0
theorem impl_Relabel_75.mono_l (P P' : S32 → Option Bool) (hP : ∀ x,LeO (P x) (P' x)) (l0 : List (S32)) : ∀ k x8,LeO (impl_Relabel_75.l0 P l0 k x8) (impl_Relabel_75.l0 P' l0 (k + 1) x8)
 | 0,_ => LeO.none _
 | k + 1,x8 => by
  have ih:=impl_Relabel_75.mono_l P P' hP l0 k
  unfold impl_Relabel_75.l0
  exact LeO.ite (LeO.ite (LeO.bind (hP _) (fun _ => LeO.ite (LeO.refl _) (ih _))) (LeO.none _)) (LeO.refl _)
theorem impl_Relabel_75.mono (P P' : S32 → Option Bool) (hP : ∀ x,LeO (P x) (P' x)) (l0 : List (S32)) (k : Nat) : LeO (impl_Relabel_75.f k P l0) (impl_Relabel_75.f (k + 1) P' l0):=impl_Relabel_75.mono_l P P' hP l0 k _
theorem impl_Relabel_75.calls (k : Nat) (P : S32 → Option Bool) (g : Nat) (vf : Value) (lb : Array Value) (hv : (vf = .func (.func g) #[] lb)) (eg : ∀ args w,(callFunc g args).run Tryz.prog w = .ok (.enter g args) w) (A0 : Option Addr) (c0 : Nat) (l0 : List (S32)) (r : Int) (w : World) (hr0 : Kd.C k32 w A0 l0.length l0) (hc0 : l0.length ≤ c0)
  (hP : ∀ (W : World) (x : S32) (A_1 : Option Addr) (c_1 : Nat) (b : Bool),Below w.heap.size w W → x.f1.length ≤ c_1 → Kd.C Kd.string W A_1 x.f1.length x.f1 → P x = some b → Calls Tryz.prog g (#[(.agg #[.int .i64 (x.f0),.slice A_1 (x.f1).length c_1,.string (x.f2),.string (x.f3),.string (x.f4),.string (x.f5),.int .i64 (x.f6)])] ++ lb) W fun e w' => e = .returned (.bool b) ∧ Below W.heap.size W w') (h : impl_Relabel_75.f k P l0 = some r) :
  Calls Tryz.prog 75 #[.slice A0 l0.length c0,vf] w fun e w' => e = .returned (.int .i64 r) ∧ Below w.heap.size w w':=by
 subst hv
 have hu:=Tryz.underlying32
 have HR0:=am_ hr0
 have HC0:=am_ hc0
 clear hr0 hc0
 have HB:=am_ (Below.refl w.heap.size w)
 have hP':=am_ hP
 clear hP
 have H':=am_ (show impl_Relabel_75.l0 P l0 k 0 = some r from h)
 clear h
 go_enter Tryz.func75,Tryz.ntmps75
 go_wp2
 go_loopg [8] k (fun kq v8 w' => ∃ (x8 : Int),v8 = .int .i64 x8 ∧ Aside0 (impl_Relabel_75.l0 P l0 kq x8 = some r) ∧ Aside0 (Below w.heap.size w w'))
 case atStart => exact ⟨0,rs_,H',⟨bl_⟩⟩
 case round =>
  clear H'
  obtain ⟨x8,rfl,HA,HB⟩:=hrel
  cases gk with
  | zero => exact absurd HA.out (by simp [impl_Relabel_75.l0])
  | succ k1 =>
   have H:=HA.out
   clear HA
   simp only [impl_Relabel_75.l0] at H
   by_cases c4 : x8 < (l0.length : Int)
   ·rw [if_pos c4] at H
    have c4b0 : decide (x8 < (l0.length : Int)) = true:=decide_eq_true c4
    by_cases c5 : 0 ≤ x8
    ·rw [if_pos c5] at H
     have c5b0 : decide (0 ≤ x8) = true:=decide_eq_true c5
     obtain ⟨b,hb0,H⟩:=Option.bind_eq_some_iff.mp H
     have HP0:=am_ hb0
     clear hb0
     obtain ⟨ad,A_1,c_1,e_,hx_0,hx_1,hx_2,hx_3,hx_4,hx_5,hx_6,l_1,g_1⟩:=at_T32 (Kd.C_below HR0.out HB.out) x8 c5 c4
     cases e_
     skip
     have p_:=eq_true c5
     have q_:=eq_true c4
     clear c4 c5
     cases b with
     | true =>
      rw [if_pos rfl] at H
      obtain rfl:=Option.some.inj H
      go_wp2_with (first|((with_reducible refine Calls.mono (hP'.out _ (⟨(rd_T32 l0 x8).f0,(rd_T32 l0 x8).f1,(rd_T32 l0 x8).f2,(rd_T32 l0 x8).f3,(rd_T32 l0 x8).f4,(rd_T32 l0 x8).f5,(rd_T32 l0 x8).f6⟩ : S32) A_1 c_1 true HB.out l_1 g_1 HP0.out) ?_);rintro e w10 ⟨rfl,hb⟩;have n2_:=am_ (below_step HB.out hb);clear HB;have HB:=n2_;clear n2_ hb))
      go_ret
      exact ⟨rf_,bl_⟩
     | false =>
      rw [if_neg (show ¬ (false = true) by decide)] at H
      have H':=am_ H
      clear H
      go_wp2_with (first|((with_reducible refine Calls.mono (hP'.out _ (⟨(rd_T32 l0 x8).f0,(rd_T32 l0 x8).f1,(rd_T32 l0 x8).f2,(rd_T32 l0 x8).f3,(rd_T32 l0 x8).f4,(rd_T32 l0 x8).f5,(rd_T32 l0 x8).f6⟩ : S32) A_1 c_1 false HB.out l_1 g_1 HP0.out) ?_);rintro e w10 ⟨rfl,hb⟩;have n2_:=am_ (below_step HB.out hb);clear HB;have HB:=n2_;clear n2_ hb))
      go_roundg k1
      case measure => omega
      case rel => exact ⟨(wrap64 (x8 + 1)),rs_,H',⟨bl_⟩⟩
    ·rw [if_neg c5] at H
     exact absurd H (by simp)
   ·rw [if_neg c4] at H
    have c4b0 : decide (x8 < (l0.length : Int)) = false:=decide_eq_false c4
    clear c4
    obtain rfl:=Option.some.inj H
    go_wp2
    go_ret
    exact ⟨rf_,bl_⟩
def impl_Relabel_38.f (k : Nat) (P : S32 → Option Bool) (l0 : List (S32)) : Option Bool:=(impl_Relabel_75.f k P l0).bind fun j => some (decide (0 ≤ j))
theorem impl_Relabel_38.mono (P P' : S32 → Option Bool) (hP : ∀ x,LeO (P x) (P' x)) (l0 : List (S32)) (k : Nat) : LeO (impl_Relabel_38.f k P l0) (impl_Relabel_38.f (k + 1) P' l0):=LeO.bind (impl_Relabel_75.mono P P' hP l0 k) (fun _ => LeO.refl _)
theorem impl_Relabel_38.calls (k : Nat) (P : S32 → Option Bool) (g : Nat) (vf : Value) (lb : Array Value) (hv : vf = .func (.func g) #[] lb) (eg : ∀ args w,(callFunc g args).run Tryz.prog w = .ok (.enter g args) w) (A0 : Option Addr) (c0 : Nat) (l0 : List (S32)) (r : Bool) (w : World) (hr0 : Kd.C k32 w A0 l0.length l0) (hc0 : l0.length ≤ c0)
  (hP : ∀ (W : World) (x : S32) (A_1 : Option Addr) (c_1 : Nat) (b : Bool),Below w.heap.size w W → x.f1.length ≤ c_1 → Kd.C Kd.string W A_1 x.f1.length x.f1 → P x = some b → Calls Tryz.prog g (#[(.agg #[.int .i64 (x.f0),.slice A_1 (x.f1).length c_1,.string (x.f2),.string (x.f3),.string (x.f4),.string (x.f5),.int .i64 (x.f6)])] ++ lb) W fun e w' => e = .returned (.bool b) ∧ Below W.heap.size W w') (h : impl_Relabel_38.f k P l0 = some r) :
  Calls Tryz.prog 38 #[.slice A0 l0.length c0,vf] w fun e w' => e = .returned (.bool r) ∧ Below w.heap.size w w':=by
 unfold impl_Relabel_38.f at h
 obtain ⟨j,hj,h⟩:=Option.bind_eq_some_iff.mp h
 obtain rfl:=Option.some.inj h
 have hx:=am_ (impl_Relabel_75.calls k P g vf lb hv eg A0 c0 l0 j w hr0 hc0 hP hj)
 clear hr0 hc0 hP h hj eg
 subst hv
 go_enter Tryz.func38,Tryz.ntmps38
 go_wp2_with (first|(go_at_call 75;refine hx.out.mono ?_;rintro e w1 ⟨rfl,hb⟩))
 go_ret
 exact ⟨rfl,hb⟩
def impl_RelabelAll_1.f (k : Nat) (a0_0 : Int) (l0_1 : List ByteArray) (a0_2 : ByteArray) (a0_3 : ByteArray) (a0_4 : ByteArray) (a0_5 : ByteArray) (a0_6 : Int) : Option (Bool):=(impl_GoodRelabel.f k a0_0 l0_1 a0_2 a0_3 a0_4 a0_5 a0_6).bind fun t1002 => (some (!t1002))
theorem impl_RelabelAll_1.mono : ∀ a0 a1 a2 a3 a4 a5 a6 k,LeO (impl_RelabelAll_1.f k a0 a1 a2 a3 a4 a5 a6) (impl_RelabelAll_1.f (k + 1) a0 a1 a2 a3 a4 a5 a6):=by
 intro a0 a1 a2 a3 a4 a5 a6 k
 unfold impl_RelabelAll_1.f
 repeat' with_reducible first|apply impl_GoodRelabel.mono|apply LeO.refl|apply LeO.none|apply LeO.ite|refine LeO.bind ?_ (fun _ => ?_)
theorem impl_RelabelAll_1.calls (k : Nat) (a0_0 : Int) (A0_1 : Option Addr) (c0_1 : Nat) (l0_1 : List ByteArray) (a0_2 : ByteArray) (a0_3 : ByteArray) (a0_4 : ByteArray) (a0_5 : ByteArray) (a0_6 : Int) (r : Bool) (w : World) (hr0_1 : Kd.C Kd.string w A0_1 l0_1.length l0_1) (hc0_1 : l0_1.length ≤ c0_1) (h : impl_RelabelAll_1.f k a0_0 l0_1 a0_2 a0_3 a0_4 a0_5 a0_6 = some r) :
  Calls Tryz.prog 39 #[.agg #[.int .i64 a0_0,.slice A0_1 l0_1.length c0_1,.string a0_2,.string a0_3,.string a0_4,.string a0_5,.int .i64 a0_6]] w fun e w' => e = .returned (.bool r) ∧ Below w.heap.size w w':=by
 have hu32:=Tryz.underlying32;have HR0_1:=am_ hr0_1;have HC0_1:=am_ hc0_1;clear hr0_1 hc0_1;have HB:=am_ (Below.refl w.heap.size w);have H:=h;clear h;unfold impl_RelabelAll_1.f at H;replace H:=bs_ H;obtain ⟨t1002,A2,H⟩:=H;obtain rfl:=si_ H;go_enter Tryz.func39,Tryz.ntmps39;go_wp2_with (first|((with_reducible refine gate_dst (N:=1) rfl ?_);refine bx_ 1 #[.int .i64 a0_0,.slice A0_1 l0_1.length c0_1,.string a0_2,.string a0_3,.string a0_4,.string a0_5,.int .i64 a0_6] 32 ?_;intro gb1001 hg w3 hbox hb;have BK1001:=am_ (hbox);have GW1001:=am_ (gs_ hg : w.heap.size ≤ gb1001);replace HB:=am_ (below_step bl_ hb);have GE1001:=GW1001;clear hb hbox hg;have hz4:=bk7_ BK1001)|((with_reducible refine gate_callee (f:=30) rfl ?_);refine gl_ 4 Tryz.func30 #[.agg #[.int .i64 a0_0,.slice A0_1 l0_1.length c0_1,.string a0_2,.string a0_3,.string a0_4,.string a0_5,.int .i64 a0_6]] ?_;(with_reducible refine (impl_GoodRelabel.calls k a0_0 _ _ l0_1 a0_2 a0_3 a0_4 a0_5 a0_6 t1002 _ ?side1 ?side2 A2.out).mono ?_);(case side1 => exact cc_ (Kd.C_below HR0_1.out HB.out));(case side2 => exact HC0_1.out);rintro e w5 ⟨rfl,hb⟩;refine ⟨_,rfl,?_⟩;replace BK1001:=vb_ BK1001 hb;replace HB:=am_ (below_step bg_ hb);(try clear hb)));go_ret;exact ⟨rf_,bg_⟩
def any_38_39.f (k : Nat) (l0 : List (S32)) : Option Bool:=impl_Relabel_38.f k (fun x => impl_RelabelAll_1.f k x.f0 x.f1 x.f2 x.f3 x.f4 x.f5 x.f6) l0
theorem any_38_39.mono : ∀ a0 k,LeO (any_38_39.f k a0) (any_38_39.f (k + 1) a0):=fun a0 k => impl_Relabel_38.mono _ _ (fun x => impl_RelabelAll_1.mono _ _ _ _ _ _ _ _) a0 k
theorem any_38_39.calls (k : Nat) (A0 : Option Addr) (c0 : Nat) (l0 : List (S32)) (r : Bool) (w : World) (hr0 : Kd.C k32 w A0 l0.length l0) (hc0 : l0.length ≤ c0) (h : any_38_39.f k l0 = some r) (hT1 : Tg1 w:=by exact Tg1.below hT1 bg_) :
  Calls Tryz.prog 38 #[.slice A0 l0.length c0,.func (.func 39) #[] #[]] w fun e w' => e = .returned (.bool r) ∧ Below w.heap.size w w' :=
 impl_Relabel_38.calls k _ 39 (.func (.func 39) #[] #[]) #[] rfl (enters_ Tryz.func39 (by kernel_rfl) rfl) A0 c0 l0 r w hr0 hc0 (by
  intro W x A_1 c_1 b hW l_1 g_1 hP;exact impl_RelabelAll_1.calls k x.f0 A_1 c_1 x.f1 x.f2 x.f3 x.f4 x.f5 x.f6 b W g_1 l_1 hP) h
mutual
def impl_RelabelAll.j0 : Nat → List (S53) → List (S32) → Bool → Option ((List (S53)) × Bool)
 | 0,_,_,_ => none
 | k + 1,x0,x1,x20 => if x20 = true then (some (([] : List (S53)),false)) else ((impl_Label_40.f x0).bind fun t1003 => (impl_RelabelAll.l0 k t1003 x1 (x1.length : Int) 0))
def impl_RelabelAll.l0 : Nat → List (S53) → List (S32) → Int → Int → Option ((List (S53)) × Bool)
 | 0,_,_,_,_ => none
 | k + 1,x0,x23,x24,x25 => if x25 < x24 then (if 0 ≤ x25 then (if x25 < (x23.length : Int) then ((impl_relabel.f k x0 ((rd_T32 x23 x25).f0) ((rd_T32 x23 x25).f1) ((rd_T32 x23 x25).f2) ((rd_T32 x23 x25).f3) ((rd_T32 x23 x25).f4) ((rd_T32 x23 x25).f5) ((rd_T32 x23 x25).f6)).bind fun bt1008 => (if bt1008.2 = true then (impl_RelabelAll.l0 k bt1008.1 x23 x24 (wrap64 (x25 + 1))) else (some (([] : List (S53)),false)))) else (none)) else (none)) else (some (x0,true))
end
def impl_RelabelAll.f (k : Nat) (l0 : List (S53)) (l1 : List (S32)) : Option ((List (S53)) × Bool):=(impl_GoodLabels.f k l0).bind fun t1001 => (if t1001 = true then (if (l1.length : Int) > 30 then (impl_RelabelAll.j0 k l0 l1 true) else ((any_38_39.f k l1).bind fun t1002 => (impl_RelabelAll.j0 k l0 l1 t1002))) else (impl_RelabelAll.j0 k l0 l1 true))
theorem impl_RelabelAll.mono_l : ∀ k,(∀ y0 y1 y2,LeO (impl_RelabelAll.j0 k y0 y1 y2) (impl_RelabelAll.j0 (k + 1) y0 y1 y2)) ∧ (∀ y0 y1 y2 y3,LeO (impl_RelabelAll.l0 k y0 y1 y2 y3) (impl_RelabelAll.l0 (k + 1) y0 y1 y2 y3))
 | 0 => ⟨fun _ _ _ r h => by simp [impl_RelabelAll.j0] at h,fun _ _ _ _ r h => by simp [impl_RelabelAll.l0] at h⟩
 | k + 1 => by
  obtain ⟨ih0,ih1⟩:=impl_RelabelAll.mono_l k
  refine ⟨?_,?_⟩
  ·intro y0 y1 y2
   unfold impl_RelabelAll.j0
   repeat' with_reducible first|apply ih0|apply ih1|apply any_38_39.mono|apply impl_GoodLabels.mono|apply impl_relabel.mono|apply LeO.refl|apply LeO.none|apply LeO.ite|refine LeO.bind ?_ (fun _ => ?_)
  ·intro y0 y1 y2 y3
   unfold impl_RelabelAll.l0
   repeat' with_reducible first|apply ih0|apply ih1|apply any_38_39.mono|apply impl_GoodLabels.mono|apply impl_relabel.mono|apply LeO.refl|apply LeO.none|apply LeO.ite|refine LeO.bind ?_ (fun _ => ?_)
theorem impl_RelabelAll.mono : ∀ a0 a1 k,LeO (impl_RelabelAll.f k a0 a1) (impl_RelabelAll.f (k + 1) a0 a1):=by
 intro a0 a1 k
 obtain ⟨ih0,ih1⟩:=impl_RelabelAll.mono_l k
 unfold impl_RelabelAll.f
 repeat' with_reducible first|apply ih0|apply ih1|apply any_38_39.mono|apply impl_GoodLabels.mono|apply impl_relabel.mono|apply LeO.refl|apply LeO.none|apply LeO.ite|refine LeO.bind ?_ (fun _ => ?_)
theorem impl_RelabelAll.calls (k : Nat) (A0 : Option Addr) (c0 : Nat) (l0 : List (S53)) (A1 : Option Addr) (c1 : Nat) (l1 : List (S32)) (r1 : List (S53)) (r2 : Bool) (w : World) (hr0 : Kd.C k53 w A0 l0.length l0) (hc0 : l0.length ≤ c0) (hr1 : Kd.C k32 w A1 l1.length l1) (hc1 : l1.length ≤ c1) (h : impl_RelabelAll.f k l0 l1 = some (r1,r2)) (hT1 : Tg1 w:=by exact Tg1.below hT1 bg_) :
  Calls Tryz.prog 19 #[.slice A0 l0.length c0,.slice A1 l1.length c1] w fun e w' => ∃ v0_ : Value,e = .returned (.tuple #[v0_,.bool r2]) ∧ Kd.R k53 53 w' w.heap.size (fun _ => True) v0_ r1 ∧ Below w.heap.size w w':=by
 have hu32:=Tryz.underlying32;have HR0:=am_ hr0;have HC0:=am_ hc0;clear hr0 hc0;have HR1:=am_ hr1;have HC1:=am_ hc1;clear hr1 hc1;have HB:=am_ (Below.refl w.heap.size w);have H : ((impl_GoodLabels.f k l0).bind fun t1001 => (if t1001 = true then (if (l1.length : Int) > 30 then (impl_RelabelAll.j0 k l0 l1 true) else ((any_38_39.f k l1).bind fun t1002 => (impl_RelabelAll.j0 k l0 l1 t1002))) else (impl_RelabelAll.j0 k l0 l1 true))) = some (r1,r2):=h;clear h;have HC3:=am_ H;clear H;go_enter Tryz.func19,Tryz.ntmps19;go_upto_region 1 with (fail)
 go_cut [20] (fun v20 wc => ∃ (kq : Nat) (x20_2 : Bool),v20 = .bool x20_2 ∧ Aside0 (impl_RelabelAll.j0 kq l0 l1 x20_2 = some (r1,r2)) ∧ Aside0 (kq ≤ k) ∧ Aside0 (Below w.heap.size w wc))
 case first =>
  have H:=HC3.out;clear HC3;replace H:=Option.bind_eq_some_iff.mp H;obtain ⟨t1001,A40,H⟩:=H;replace H : (if t1001 = true then (if (l1.length : Int) > 30 then (impl_RelabelAll.j0 k l0 l1 true) else ((any_38_39.f k l1).bind fun t1002 => (impl_RelabelAll.j0 k l0 l1 t1002))) else (impl_RelabelAll.j0 k l0 l1 true)) = some (r1,r2):=H;have A4:=am_ A40;clear A40
  by_cases c5 : t1001 = true
  ·subst c5;replace H:=it_ H
   by_cases c6 : (l1.length : Int) > 30
   ·rw [if_pos c6] at H;have c6b0:=dg_ c6;have c6b1 : decide (30 < l1.length) = true:=decide_eq_true (by omega);clear c6;(first|rw [c6b0]|(simp only [i64_w,i32_w];rw [c6b0])|skip);have H':=am_ H;clear H;go_wp2_with (first|((with_reducible refine gate_callee (f:=29) rfl ?_);refine gl_ 10 Tryz.func29 #[.slice A0 l0.length c0] ?_;(with_reducible refine (impl_GoodLabels.calls k _ _ l0 true _ ?side1 ?side2 A4.out).mono ?_);(case side1 => exact cc_ (Kd.C_below HR0.out HB.out));(case side2 => exact HC0.out);rintro e w7 ⟨rfl,hb⟩;refine ⟨_,rfl,?_⟩;replace HB:=am_ (below_step bl_ hb);(try clear hb)));go_meet
    case rel => exact ⟨_,(true),rs_,H',⟨by first|omega|exact Nat.le_refl _⟩,⟨bl_⟩⟩
   ·rw [if_neg c6] at H;have c6b0:=df_ c6;have c6b1 : decide (30 < l1.length) = false:=decide_eq_false (by omega);clear c6;(first|rw [c6b0]|(simp only [i64_w,i32_w];rw [c6b0])|skip);replace H:=Option.bind_eq_some_iff.mp H;obtain ⟨t1002,A80,H⟩:=H;replace H : (impl_RelabelAll.j0 k l0 l1 t1002) = some (r1,r2):=H;have A8:=am_ A80;clear A80;have H':=am_ H;clear H;go_wp2_with (first|((with_reducible refine gate_callee (f:=29) rfl ?_);refine gl_ 10 Tryz.func29 #[.slice A0 l0.length c0] ?_;(with_reducible refine (impl_GoodLabels.calls k _ _ l0 true _ ?side1 ?side2 A4.out).mono ?_);(case side1 => exact cc_ (Kd.C_below HR0.out HB.out));(case side2 => exact HC0.out);rintro e w9 ⟨rfl,hb⟩;refine ⟨_,rfl,?_⟩;replace HB:=am_ (below_step bl_ hb);(try clear hb))|(go_at_call 38;(with_reducible refine (any_38_39.calls k _ _ l1 t1002 _ ?side1 ?side2 A8.out).mono ?_);(case side1 => exact cc_ (Kd.C_below HR1.out HB.out));(case side2 => exact HC1.out);rintro e w10 ⟨rfl,hb⟩;replace HB:=am_ (below_step bl_ hb);(try clear hb)));go_meet
    case rel => exact ⟨_,(t1002),rs_,H',⟨by first|omega|exact Nat.le_refl _⟩,⟨bl_⟩⟩
  ·replace c5:=Bool.eq_false_iff.mpr c5;subst c5;replace H:=if_ H;have H':=am_ H;clear H;go_wp2_with (first|((with_reducible refine gate_callee (f:=29) rfl ?_);refine gl_ 10 Tryz.func29 #[.slice A0 l0.length c0] ?_;(with_reducible refine (impl_GoodLabels.calls k _ _ l0 false _ ?side1 ?side2 A4.out).mono ?_);(case side1 => exact cc_ (Kd.C_below HR0.out HB.out));(case side2 => exact HC0.out);rintro e w11 ⟨rfl,hb⟩;refine ⟨_,rfl,?_⟩;replace HB:=am_ (below_step bl_ hb);(try clear hb)));go_meet
   case rel => exact ⟨_,(true),rs_,H',⟨by first|omega|exact Nat.le_refl _⟩,⟨bl_⟩⟩
 case rest =>
  clear HC3;obtain ⟨kq,x20_2,rfl,HA,HJ2,HB⟩:=hcut
  cases kq with
  | zero => exact absurd HA.out (by simp [impl_RelabelAll.j0])
  | succ kj2 =>
   have H:=HA.out;clear HA;simp only [impl_RelabelAll.j0] at H
   by_cases c12 : x20_2 = true
   ·subst c12;replace H:=it_ H;simp only [Option.some.injEq,Prod.mk.injEq] at H;obtain ⟨rfl,rfl⟩:=H;go_wp2;go_ret2;exact ⟨_,rf_,ni_,bl_⟩
   ·replace c12:=Bool.eq_false_iff.mpr c12;subst c12;replace H:=if_ H;replace H:=Option.bind_eq_some_iff.mp H;obtain ⟨t1003,A130,H⟩:=H;replace H : (impl_RelabelAll.l0 kj2 t1003 l1 (l1.length : Int) 0) = some (r1,r2):=H;have A13:=am_ A130;clear A130;have H':=am_ H;clear H;go_wp2_with (first|((with_reducible refine gate_callee (f:=40) rfl ?_);refine gl_ 22 Tryz.func40 #[.slice A0 l0.length c0] ?_;(with_reducible refine (impl_Label_40.calls _ _ l0 t1003 _ ?side1 ?side2 A13.out).mono ?_);(case side1 => exact cc_ (Kd.C_below HR0.out HB.out));(case side2 => exact HC0.out);rintro e w14 ⟨v1004,rfl,ho0,hb⟩;refine ⟨_,rfl,?_⟩;have HO1005:=am_ (Kd.R_lower ho0 (below_size bl_));replace HB:=am_ (below_step bl_ hb);(try clear hb);(try clear ho0)))
    go_loopg [0,25] kj2 (fun kq v0 v25 w' => ∃ (x0_2 : List (S53)) (x25_2 : Int),v25 = .int .i64 x25_2 ∧ Aside0 (impl_RelabelAll.l0 kq x0_2 l1 (l1.length : Int) x25_2 = some (r1,r2)) ∧ Aside0 (kq ≤ kj2) ∧ Aside0 (Kd.R k53 53 w' w.heap.size (fun _ => True) v0 x0_2) ∧ Aside0 (Below w.heap.size w w'))
    case atStart => exact ⟨(t1003),(0),rs_,H',⟨Nat.le_refl _⟩,⟨ro_ HO1005⟩,⟨bl_⟩⟩
    case round =>
     clear H';(try clear c12);obtain ⟨x0_2,x25_2,rfl,HA,HK2,HO_0,HB⟩:=hrel
     cases gk with
     | zero => exact absurd HA.out (by simp [impl_RelabelAll.l0])
     | succ k2 =>
      have H:=HA.out;clear HA;simp only [impl_RelabelAll.l0] at H
      by_cases c15 : x25_2 < (l1.length : Int)
      ·rw [if_pos c15] at H;have c15b0:=decide_eq_true c15;clear c15;replace H:=is_ H;obtain ⟨c16,H⟩:=H;have c16b0:=decide_eq_true c16;clear c16;replace H:=is_ H;obtain ⟨c17,H⟩:=H;have c17b0:=decide_eq_true c17;clear c17;replace H:=Option.bind_eq_some_iff.mp H;obtain ⟨⟨t1008,t1011⟩,A180,H⟩:=H;replace H : (if t1011 = true then (impl_RelabelAll.l0 k2 t1008 l1 (l1.length : Int) (wrap64 (x25_2 + 1))) else (some (([] : List (S53)),false))) = some (r1,r2):=H;have A18:=am_ A180;clear A180
       by_cases c19 : t1011 = true
       ·subst c19;replace H:=it_ H;have H':=am_ H;clear H;have p1006 : 0 ≤ (x25_2 : Int):=od_;have q1006 : x25_2 < (l1.length : Int):=od_;obtain ⟨ad1006,A1006_1,c1006_1,e1006,hx1006_0,hx1006_1,hx1006_2,hx1006_3,hx1006_4,hx1006_5,hx1006_6,hl1006_1,hi1006_1⟩:=at_T32 HR1.out x25_2 p1006 q1006
        cases e1006
        replace hx1006_0:=kp_ HB hx1006_0;replace hx1006_1:=kp_ HB hx1006_1;replace hx1006_2:=kp_ HB hx1006_2;replace hx1006_3:=kp_ HB hx1006_3;replace hx1006_4:=kp_ HB hx1006_4;replace hx1006_5:=kp_ HB hx1006_5;replace hx1006_6:=kp_ HB hx1006_6;have HR1006_1:=am_ hi1006_1;have HC1006_1:=am_ hl1006_1;clear hi1006_1 hl1006_1;replace p1006:=eq_true p1006;replace q1006:=eq_true q1006;go_wp2_with (first|((with_reducible refine gate_dst (N:=7) rfl ?_);(try (refine gate_guard (by rfl) ?_;dsimp only));refine bx_ 7 #[.int .i64 0,.slice none 0 0,.string (⟨#[]⟩ : ByteArray),.string (⟨#[]⟩ : ByteArray),.string (⟨#[]⟩ : ByteArray),.string (⟨#[]⟩ : ByteArray),.int .i64 0] 32 ?_;intro gb1007 hg w20 hbox hb;have BK1007:=am_ (hbox);have GW1007:=am_ (gs_ hg : w.heap.size ≤ gb1007);replace HO_0:=am_ (Kd.R_below (ro_ HO_0) hb);replace HB:=am_ (below_step bl_ hb);have GE1007:=GW1007;clear hb hbox hg;have hz21:=bk7_ BK1007;obtain ⟨Ao22,co22,eo22⟩:=Kd.R_slice HO_0.out;subst eo22)|((with_reducible refine gate_callee (f:=31) rfl ?_);refine gl_ 32 Tryz.func31 #[.slice Ao22 x0_2.length co22,.agg #[.int .i64 ((rd_T32 l1 x25_2).f0),.slice A1006_1 ((rd_T32 l1 x25_2).f1).length c1006_1,.string ((rd_T32 l1 x25_2).f2),.string ((rd_T32 l1 x25_2).f3),.string ((rd_T32 l1 x25_2).f4),.string ((rd_T32 l1 x25_2).f5),.int .i64 ((rd_T32 l1 x25_2).f6)]] ?_;(with_reducible refine (impl_relabel.calls k2 _ _ x0_2 ((rd_T32 l1 x25_2).f0) _ _ ((rd_T32 l1 x25_2).f1) ((rd_T32 l1 x25_2).f2) ((rd_T32 l1 x25_2).f3) ((rd_T32 l1 x25_2).f4) ((rd_T32 l1 x25_2).f5) ((rd_T32 l1 x25_2).f6) t1008 true _ ?side1 ?side2 ?side3 ?side4 A18.out).mono ?_);(case side1 => refine (Kd.R_reads' (e:=53) (base:=w.heap.size) (ok:=fun k_ => True) (n:=x0_2.length) (c:=co22) ?_).2.2;exact (by (with_reducible repeat (first|apply Kd.R_alloc|apply Kd.R_drewN|apply Kd.R_drew));exact (Kd.R_mono (Kd.R_far (p:=⟨gb1007,6,none⟩) (Kd.R_far (p:=⟨gb1007,5,none⟩) (Kd.R_far (p:=⟨gb1007,4,none⟩) (Kd.R_far (p:=⟨gb1007,3,none⟩) (Kd.R_far (p:=⟨gb1007,2,none⟩) (Kd.R_far (p:=⟨gb1007,1,none⟩) (Kd.R_far (p:=⟨gb1007,0,none⟩) (Kd.R_types HO_0.out BK1007.out (by decide)) (fun _ hk => hk.2) (.int .i64 ((rd_T32 l1 x25_2).f0))) (fun _ hk => hk.2) (.slice A1006_1 ((rd_T32 l1 x25_2).f1).length c1006_1)) (fun _ hk => hk.2) (.string ((rd_T32 l1 x25_2).f2))) (fun _ hk => hk.2) (.string ((rd_T32 l1 x25_2).f3))) (fun _ hk => hk.2) (.string ((rd_T32 l1 x25_2).f4))) (fun _ hk => hk.2) (.string ((rd_T32 l1 x25_2).f5))) (fun _ hk => hk.2) (.int .i64 ((rd_T32 l1 x25_2).f6))) (fun _ h_ => h_.1))));(case side2 => exact (Kd.R_reads' HO_0.out).2.1);(case side3 => exact Kd.C_below HR1006_1.out bg_);(case side4 => exact HC1006_1.out);rintro e w23 ⟨v1009,rfl,ho0,hb⟩;refine ⟨_,rfl,?_⟩;have HO1010:=am_ (Kd.R_lower (Kd.R_new' ho0 (Kd.R_lt (by (with_reducible repeat (first|apply Kd.R_alloc|apply Kd.R_drewN|apply Kd.R_drew));exact (Kd.R_mono (Kd.R_far (p:=⟨gb1007,6,none⟩) (Kd.R_far (p:=⟨gb1007,5,none⟩) (Kd.R_far (p:=⟨gb1007,4,none⟩) (Kd.R_far (p:=⟨gb1007,3,none⟩) (Kd.R_far (p:=⟨gb1007,2,none⟩) (Kd.R_far (p:=⟨gb1007,1,none⟩) (Kd.R_far (p:=⟨gb1007,0,none⟩) (Kd.R_types HO_0.out BK1007.out (by decide)) (fun _ hk => hk.2) (.int .i64 ((rd_T32 l1 x25_2).f0))) (fun _ hk => hk.2) (.slice A1006_1 ((rd_T32 l1 x25_2).f1).length c1006_1)) (fun _ hk => hk.2) (.string ((rd_T32 l1 x25_2).f2))) (fun _ hk => hk.2) (.string ((rd_T32 l1 x25_2).f3))) (fun _ hk => hk.2) (.string ((rd_T32 l1 x25_2).f4))) (fun _ hk => hk.2) (.string ((rd_T32 l1 x25_2).f5))) (fun _ hk => hk.2) (.int .i64 ((rd_T32 l1 x25_2).f6))) (fun _ h_ => h_.1))))) (below_size bg_));replace HO_0:=am_ (Kd.R_elder' (by (with_reducible repeat (first|apply Kd.R_alloc|apply Kd.R_drewN|apply Kd.R_drew));exact (Kd.R_mono (Kd.R_far (p:=⟨gb1007,6,none⟩) (Kd.R_far (p:=⟨gb1007,5,none⟩) (Kd.R_far (p:=⟨gb1007,4,none⟩) (Kd.R_far (p:=⟨gb1007,3,none⟩) (Kd.R_far (p:=⟨gb1007,2,none⟩) (Kd.R_far (p:=⟨gb1007,1,none⟩) (Kd.R_far (p:=⟨gb1007,0,none⟩) (Kd.R_types HO_0.out BK1007.out (by decide)) (fun _ hk => hk.2) (.int .i64 ((rd_T32 l1 x25_2).f0))) (fun _ hk => hk.2) (.slice A1006_1 ((rd_T32 l1 x25_2).f1).length c1006_1)) (fun _ hk => hk.2) (.string ((rd_T32 l1 x25_2).f2))) (fun _ hk => hk.2) (.string ((rd_T32 l1 x25_2).f3))) (fun _ hk => hk.2) (.string ((rd_T32 l1 x25_2).f4))) (fun _ hk => hk.2) (.string ((rd_T32 l1 x25_2).f5))) (fun _ hk => hk.2) (.int .i64 ((rd_T32 l1 x25_2).f6))) (fun _ h_ => h_.1))) (Kd.R_base ho0) hb);replace BK1007:=am_ (blk_below (g:=gb1007) (o:=.cells #[.int .i64 ((rd_T32 l1 x25_2).f0),.slice A1006_1 ((rd_T32 l1 x25_2).f1).length c1006_1,.string ((rd_T32 l1 x25_2).f2),.string ((rd_T32 l1 x25_2).f3),.string ((rd_T32 l1 x25_2).f4),.string ((rd_T32 l1 x25_2).f5),.int .i64 ((rd_T32 l1 x25_2).f6)] 32 (0,0)) (by (with_reducible repeat (first|refine blk_drewN ?_ _|refine blk_drew ?_|refine blk_alloc ?_ _));refine blk_put (cs:=#[.int .i64 ((rd_T32 l1 x25_2).f0),.slice A1006_1 ((rd_T32 l1 x25_2).f1).length c1006_1,.string ((rd_T32 l1 x25_2).f2),.string ((rd_T32 l1 x25_2).f3),.string ((rd_T32 l1 x25_2).f4),.string ((rd_T32 l1 x25_2).f5),.int .i64 0]) ?_ 6 _ rfl;(with_reducible repeat (first|refine blk_drewN ?_ _|refine blk_drew ?_|refine blk_alloc ?_ _));refine blk_put (cs:=#[.int .i64 ((rd_T32 l1 x25_2).f0),.slice A1006_1 ((rd_T32 l1 x25_2).f1).length c1006_1,.string ((rd_T32 l1 x25_2).f2),.string ((rd_T32 l1 x25_2).f3),.string ((rd_T32 l1 x25_2).f4),.string (⟨#[]⟩ : ByteArray),.int .i64 0]) ?_ 5 _ rfl;(with_reducible repeat (first|refine blk_drewN ?_ _|refine blk_drew ?_|refine blk_alloc ?_ _));refine blk_put (cs:=#[.int .i64 ((rd_T32 l1 x25_2).f0),.slice A1006_1 ((rd_T32 l1 x25_2).f1).length c1006_1,.string ((rd_T32 l1 x25_2).f2),.string ((rd_T32 l1 x25_2).f3),.string (⟨#[]⟩ : ByteArray),.string (⟨#[]⟩ : ByteArray),.int .i64 0]) ?_ 4 _ rfl;(with_reducible repeat (first|refine blk_drewN ?_ _|refine blk_drew ?_|refine blk_alloc ?_ _));refine blk_put (cs:=#[.int .i64 ((rd_T32 l1 x25_2).f0),.slice A1006_1 ((rd_T32 l1 x25_2).f1).length c1006_1,.string ((rd_T32 l1 x25_2).f2),.string (⟨#[]⟩ : ByteArray),.string (⟨#[]⟩ : ByteArray),.string (⟨#[]⟩ : ByteArray),.int .i64 0]) ?_ 3 _ rfl;(with_reducible repeat (first|refine blk_drewN ?_ _|refine blk_drew ?_|refine blk_alloc ?_ _));refine blk_put (cs:=#[.int .i64 ((rd_T32 l1 x25_2).f0),.slice A1006_1 ((rd_T32 l1 x25_2).f1).length c1006_1,.string (⟨#[]⟩ : ByteArray),.string (⟨#[]⟩ : ByteArray),.string (⟨#[]⟩ : ByteArray),.string (⟨#[]⟩ : ByteArray),.int .i64 0]) ?_ 2 _ rfl;(with_reducible repeat (first|refine blk_drewN ?_ _|refine blk_drew ?_|refine blk_alloc ?_ _));refine blk_put (cs:=#[.int .i64 ((rd_T32 l1 x25_2).f0),.slice none 0 0,.string (⟨#[]⟩ : ByteArray),.string (⟨#[]⟩ : ByteArray),.string (⟨#[]⟩ : ByteArray),.string (⟨#[]⟩ : ByteArray),.int .i64 0]) ?_ 1 _ rfl;(with_reducible repeat (first|refine blk_drewN ?_ _|refine blk_drew ?_|refine blk_alloc ?_ _));refine blk_put (cs:=#[.int .i64 0,.slice none 0 0,.string (⟨#[]⟩ : ByteArray),.string (⟨#[]⟩ : ByteArray),.string (⟨#[]⟩ : ByteArray),.string (⟨#[]⟩ : ByteArray),.int .i64 0]) ?_ 0 _ rfl;(with_reducible repeat (first|refine blk_drewN ?_ _|refine blk_drew ?_|refine blk_alloc ?_ _));exact BK1007.out) hb);replace HB:=am_ (below_step bg_ hb);(try clear hb);(try clear ho0)));go_roundg k2
        case measure => have:=HJ2.out;have:=HK2.out;omega
        case rel => exact ⟨(t1008),(wrap64 (x25_2 + 1)),rs_,H',⟨by have:=HJ2.out;have:=HK2.out;omega⟩,⟨by (with_reducible repeat (first|apply Kd.R_alloc|apply Kd.R_drewN|apply Kd.R_drew));exact Kd.R_mono HO1010.out (fun _ hk => trivial)⟩,⟨bg_⟩⟩
       ·replace c19:=Bool.eq_false_iff.mpr c19;subst c19;replace H:=if_ H;simp only [Option.some.injEq,Prod.mk.injEq] at H;obtain ⟨rfl,rfl⟩:=H;have p1006 : 0 ≤ (x25_2 : Int):=od_;have q1006 : x25_2 < (l1.length : Int):=od_;obtain ⟨ad1006,A1006_1,c1006_1,e1006,hx1006_0,hx1006_1,hx1006_2,hx1006_3,hx1006_4,hx1006_5,hx1006_6,hl1006_1,hi1006_1⟩:=at_T32 HR1.out x25_2 p1006 q1006
        cases e1006
        replace hx1006_0:=kp_ HB hx1006_0;replace hx1006_1:=kp_ HB hx1006_1;replace hx1006_2:=kp_ HB hx1006_2;replace hx1006_3:=kp_ HB hx1006_3;replace hx1006_4:=kp_ HB hx1006_4;replace hx1006_5:=kp_ HB hx1006_5;replace hx1006_6:=kp_ HB hx1006_6;have HR1006_1:=am_ hi1006_1;have HC1006_1:=am_ hl1006_1;clear hi1006_1 hl1006_1;replace p1006:=eq_true p1006;replace q1006:=eq_true q1006;go_wp2_with (first|((with_reducible refine gate_dst (N:=7) rfl ?_);(try (refine gate_guard (by rfl) ?_;dsimp only));refine bx_ 7 #[.int .i64 0,.slice none 0 0,.string (⟨#[]⟩ : ByteArray),.string (⟨#[]⟩ : ByteArray),.string (⟨#[]⟩ : ByteArray),.string (⟨#[]⟩ : ByteArray),.int .i64 0] 32 ?_;intro gb1007 hg w24 hbox hb;have BK1007:=am_ (hbox);have GW1007:=am_ (gs_ hg : w.heap.size ≤ gb1007);replace HO_0:=am_ (Kd.R_below (ro_ HO_0) hb);replace HB:=am_ (below_step bl_ hb);have GE1007:=GW1007;clear hb hbox hg;have hz25:=bk7_ BK1007;obtain ⟨Ao26,co26,eo26⟩:=Kd.R_slice HO_0.out;subst eo26)|((with_reducible refine gate_callee (f:=31) rfl ?_);refine gl_ 32 Tryz.func31 #[.slice Ao26 x0_2.length co26,.agg #[.int .i64 ((rd_T32 l1 x25_2).f0),.slice A1006_1 ((rd_T32 l1 x25_2).f1).length c1006_1,.string ((rd_T32 l1 x25_2).f2),.string ((rd_T32 l1 x25_2).f3),.string ((rd_T32 l1 x25_2).f4),.string ((rd_T32 l1 x25_2).f5),.int .i64 ((rd_T32 l1 x25_2).f6)]] ?_;(with_reducible refine (impl_relabel.calls k2 _ _ x0_2 ((rd_T32 l1 x25_2).f0) _ _ ((rd_T32 l1 x25_2).f1) ((rd_T32 l1 x25_2).f2) ((rd_T32 l1 x25_2).f3) ((rd_T32 l1 x25_2).f4) ((rd_T32 l1 x25_2).f5) ((rd_T32 l1 x25_2).f6) t1008 false _ ?side1 ?side2 ?side3 ?side4 A18.out).mono ?_);(case side1 => refine (Kd.R_reads' (e:=53) (base:=w.heap.size) (ok:=fun k_ => True) (n:=x0_2.length) (c:=co26) ?_).2.2;exact (by (with_reducible repeat (first|apply Kd.R_alloc|apply Kd.R_drewN|apply Kd.R_drew));exact (Kd.R_mono (Kd.R_far (p:=⟨gb1007,6,none⟩) (Kd.R_far (p:=⟨gb1007,5,none⟩) (Kd.R_far (p:=⟨gb1007,4,none⟩) (Kd.R_far (p:=⟨gb1007,3,none⟩) (Kd.R_far (p:=⟨gb1007,2,none⟩) (Kd.R_far (p:=⟨gb1007,1,none⟩) (Kd.R_far (p:=⟨gb1007,0,none⟩) (Kd.R_types HO_0.out BK1007.out (by decide)) (fun _ hk => hk.2) (.int .i64 ((rd_T32 l1 x25_2).f0))) (fun _ hk => hk.2) (.slice A1006_1 ((rd_T32 l1 x25_2).f1).length c1006_1)) (fun _ hk => hk.2) (.string ((rd_T32 l1 x25_2).f2))) (fun _ hk => hk.2) (.string ((rd_T32 l1 x25_2).f3))) (fun _ hk => hk.2) (.string ((rd_T32 l1 x25_2).f4))) (fun _ hk => hk.2) (.string ((rd_T32 l1 x25_2).f5))) (fun _ hk => hk.2) (.int .i64 ((rd_T32 l1 x25_2).f6))) (fun _ h_ => h_.1))));(case side2 => exact (Kd.R_reads' HO_0.out).2.1);(case side3 => exact Kd.C_below HR1006_1.out bg_);(case side4 => exact HC1006_1.out);rintro e w27 ⟨v1009,rfl,ho0,hb⟩;refine ⟨_,rfl,?_⟩;have HO1010:=am_ (Kd.R_lower (Kd.R_new' ho0 (Kd.R_lt (by (with_reducible repeat (first|apply Kd.R_alloc|apply Kd.R_drewN|apply Kd.R_drew));exact (Kd.R_mono (Kd.R_far (p:=⟨gb1007,6,none⟩) (Kd.R_far (p:=⟨gb1007,5,none⟩) (Kd.R_far (p:=⟨gb1007,4,none⟩) (Kd.R_far (p:=⟨gb1007,3,none⟩) (Kd.R_far (p:=⟨gb1007,2,none⟩) (Kd.R_far (p:=⟨gb1007,1,none⟩) (Kd.R_far (p:=⟨gb1007,0,none⟩) (Kd.R_types HO_0.out BK1007.out (by decide)) (fun _ hk => hk.2) (.int .i64 ((rd_T32 l1 x25_2).f0))) (fun _ hk => hk.2) (.slice A1006_1 ((rd_T32 l1 x25_2).f1).length c1006_1)) (fun _ hk => hk.2) (.string ((rd_T32 l1 x25_2).f2))) (fun _ hk => hk.2) (.string ((rd_T32 l1 x25_2).f3))) (fun _ hk => hk.2) (.string ((rd_T32 l1 x25_2).f4))) (fun _ hk => hk.2) (.string ((rd_T32 l1 x25_2).f5))) (fun _ hk => hk.2) (.int .i64 ((rd_T32 l1 x25_2).f6))) (fun _ h_ => h_.1))))) (below_size bg_));replace HO_0:=am_ (Kd.R_elder' (by (with_reducible repeat (first|apply Kd.R_alloc|apply Kd.R_drewN|apply Kd.R_drew));exact (Kd.R_mono (Kd.R_far (p:=⟨gb1007,6,none⟩) (Kd.R_far (p:=⟨gb1007,5,none⟩) (Kd.R_far (p:=⟨gb1007,4,none⟩) (Kd.R_far (p:=⟨gb1007,3,none⟩) (Kd.R_far (p:=⟨gb1007,2,none⟩) (Kd.R_far (p:=⟨gb1007,1,none⟩) (Kd.R_far (p:=⟨gb1007,0,none⟩) (Kd.R_types HO_0.out BK1007.out (by decide)) (fun _ hk => hk.2) (.int .i64 ((rd_T32 l1 x25_2).f0))) (fun _ hk => hk.2) (.slice A1006_1 ((rd_T32 l1 x25_2).f1).length c1006_1)) (fun _ hk => hk.2) (.string ((rd_T32 l1 x25_2).f2))) (fun _ hk => hk.2) (.string ((rd_T32 l1 x25_2).f3))) (fun _ hk => hk.2) (.string ((rd_T32 l1 x25_2).f4))) (fun _ hk => hk.2) (.string ((rd_T32 l1 x25_2).f5))) (fun _ hk => hk.2) (.int .i64 ((rd_T32 l1 x25_2).f6))) (fun _ h_ => h_.1))) (Kd.R_base ho0) hb);replace BK1007:=am_ (blk_below (g:=gb1007) (o:=.cells #[.int .i64 ((rd_T32 l1 x25_2).f0),.slice A1006_1 ((rd_T32 l1 x25_2).f1).length c1006_1,.string ((rd_T32 l1 x25_2).f2),.string ((rd_T32 l1 x25_2).f3),.string ((rd_T32 l1 x25_2).f4),.string ((rd_T32 l1 x25_2).f5),.int .i64 ((rd_T32 l1 x25_2).f6)] 32 (0,0)) (by (with_reducible repeat (first|refine blk_drewN ?_ _|refine blk_drew ?_|refine blk_alloc ?_ _));refine blk_put (cs:=#[.int .i64 ((rd_T32 l1 x25_2).f0),.slice A1006_1 ((rd_T32 l1 x25_2).f1).length c1006_1,.string ((rd_T32 l1 x25_2).f2),.string ((rd_T32 l1 x25_2).f3),.string ((rd_T32 l1 x25_2).f4),.string ((rd_T32 l1 x25_2).f5),.int .i64 0]) ?_ 6 _ rfl;(with_reducible repeat (first|refine blk_drewN ?_ _|refine blk_drew ?_|refine blk_alloc ?_ _));refine blk_put (cs:=#[.int .i64 ((rd_T32 l1 x25_2).f0),.slice A1006_1 ((rd_T32 l1 x25_2).f1).length c1006_1,.string ((rd_T32 l1 x25_2).f2),.string ((rd_T32 l1 x25_2).f3),.string ((rd_T32 l1 x25_2).f4),.string (⟨#[]⟩ : ByteArray),.int .i64 0]) ?_ 5 _ rfl;(with_reducible repeat (first|refine blk_drewN ?_ _|refine blk_drew ?_|refine blk_alloc ?_ _));refine blk_put (cs:=#[.int .i64 ((rd_T32 l1 x25_2).f0),.slice A1006_1 ((rd_T32 l1 x25_2).f1).length c1006_1,.string ((rd_T32 l1 x25_2).f2),.string ((rd_T32 l1 x25_2).f3),.string (⟨#[]⟩ : ByteArray),.string (⟨#[]⟩ : ByteArray),.int .i64 0]) ?_ 4 _ rfl;(with_reducible repeat (first|refine blk_drewN ?_ _|refine blk_drew ?_|refine blk_alloc ?_ _));refine blk_put (cs:=#[.int .i64 ((rd_T32 l1 x25_2).f0),.slice A1006_1 ((rd_T32 l1 x25_2).f1).length c1006_1,.string ((rd_T32 l1 x25_2).f2),.string (⟨#[]⟩ : ByteArray),.string (⟨#[]⟩ : ByteArray),.string (⟨#[]⟩ : ByteArray),.int .i64 0]) ?_ 3 _ rfl;(with_reducible repeat (first|refine blk_drewN ?_ _|refine blk_drew ?_|refine blk_alloc ?_ _));refine blk_put (cs:=#[.int .i64 ((rd_T32 l1 x25_2).f0),.slice A1006_1 ((rd_T32 l1 x25_2).f1).length c1006_1,.string (⟨#[]⟩ : ByteArray),.string (⟨#[]⟩ : ByteArray),.string (⟨#[]⟩ : ByteArray),.string (⟨#[]⟩ : ByteArray),.int .i64 0]) ?_ 2 _ rfl;(with_reducible repeat (first|refine blk_drewN ?_ _|refine blk_drew ?_|refine blk_alloc ?_ _));refine blk_put (cs:=#[.int .i64 ((rd_T32 l1 x25_2).f0),.slice none 0 0,.string (⟨#[]⟩ : ByteArray),.string (⟨#[]⟩ : ByteArray),.string (⟨#[]⟩ : ByteArray),.string (⟨#[]⟩ : ByteArray),.int .i64 0]) ?_ 1 _ rfl;(with_reducible repeat (first|refine blk_drewN ?_ _|refine blk_drew ?_|refine blk_alloc ?_ _));refine blk_put (cs:=#[.int .i64 0,.slice none 0 0,.string (⟨#[]⟩ : ByteArray),.string (⟨#[]⟩ : ByteArray),.string (⟨#[]⟩ : ByteArray),.string (⟨#[]⟩ : ByteArray),.int .i64 0]) ?_ 0 _ rfl;(with_reducible repeat (first|refine blk_drewN ?_ _|refine blk_drew ?_|refine blk_alloc ?_ _));exact BK1007.out) hb);replace HB:=am_ (below_step bg_ hb);(try clear hb);(try clear ho0)));go_ret2;exact ⟨_,rf_,ni_,bg_⟩
      ·rw [if_neg c15] at H;have c15b0:=decide_eq_false c15;clear c15;simp only [Option.some.injEq,Prod.mk.injEq] at H;obtain ⟨rfl,rfl⟩:=H;go_wp2;go_ret2;exact ⟨_,rf_,by (with_reducible repeat (first|apply Kd.R_alloc|apply Kd.R_drewN|apply Kd.R_drew));exact HO_0.out,bl_⟩
end Go.Proofs.YtacaelfdmlegdaaGreatDoor.Pr
