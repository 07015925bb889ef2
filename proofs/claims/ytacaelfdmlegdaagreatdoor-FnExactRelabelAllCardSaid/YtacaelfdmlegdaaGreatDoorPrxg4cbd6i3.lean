/- Functions of the given program as plain Lean functions, and that the machine's calls come to them; written by a program of this session; no condition but those that each theorem states. -/
import Derived.Test.YtacaelfdmlegdaaGreatDoorShelf
import Derived.Test.YtacaelfdmlegdaaGreatDoorNest
import Derived.Test.YtacaelfdmlegdaaGreatDoorPrx0
import Derived.Test.YtacaelfdmlegdaaGreatDoorPrxg4cbd6i1
import Derived.Test.YtacaelfdmlegdaaGreatDoorPrxg4cbd6i2
set_option maxHeartbeats 8000000
set_option maxRecDepth 100000
namespace Go.Proofs.YtacaelfdmlegdaaGreatDoor.Pr
open Go.RowKit Go.Proofs.YtacaelfdmlegdaaGreatDoorW.PrintWords Go.Proofs.YtacaelfdmlegdaaGreatDoorW.PrintLast Go.Proofs.YtacaelfdmlegdaaGreatDoorW.PrintMore
attribute [local go_sem] max2_int min2_int max_two min_two max_three min_three max_four min_four
set_option linter.unusedVariables false
set_option linter.unusedSimpArgs false
mutual
def impl_PatternParts.j0 : Nat → ByteArray → List (List (S108)) → Bool → Option (List ByteArray × Bool)
 | 0,_,_,_ => none
 | k + 1,x1,x6,x23 => if x23 = true then (some (([] : List ByteArray),false)) else (impl_PatternParts.l0 k x1 x6 (x6.length : Int) 0)
def impl_PatternParts.l0 : Nat → ByteArray → List (List (S108)) → Int → Int → Option (List ByteArray × Bool)
 | 0,_,_,_,_ => none
 | k + 1,x1,x24,x25,x26 => if x26 < x25 then (if 0 ≤ x26 then (if x26 < (x24.length : Int) then ((impl_parts.f (rd_L8 x24 x26) x1).bind fun bt1006 => (if bt1006.2 = true then (some (bt1006.1,true)) else (impl_PatternParts.l0 k x1 x24 x25 (wrap64 (x26 + 1))))) else (none)) else (none)) else (some (([] : List ByteArray),false))
end
def impl_PatternParts.f (k : Nat) (a0 : ByteArray) (a1 : ByteArray) : Option (List ByteArray × Bool):=(impl_alternatives.f k a0).bind fun bt1001 => (if bt1001.2 = true then (impl_PatternParts.j0 k a1 bt1001.1 (decide ((a1.size : Int) > 100))) else (impl_PatternParts.j0 k a1 bt1001.1 true))
theorem impl_PatternParts.mono_l : ∀ k,(∀ y0 y1 y2,LeO (impl_PatternParts.j0 k y0 y1 y2) (impl_PatternParts.j0 (k + 1) y0 y1 y2)) ∧ (∀ y0 y1 y2 y3,LeO (impl_PatternParts.l0 k y0 y1 y2 y3) (impl_PatternParts.l0 (k + 1) y0 y1 y2 y3))
 | 0 => ⟨fun _ _ _ r h => by simp [impl_PatternParts.j0] at h,fun _ _ _ _ r h => by simp [impl_PatternParts.l0] at h⟩
 | k + 1 => by
  obtain ⟨ih0,ih1⟩:=impl_PatternParts.mono_l k
  refine ⟨?_,?_⟩
  ·intro y0 y1 y2
   unfold impl_PatternParts.j0
   repeat' with_reducible first|apply ih0|apply ih1|apply impl_alternatives.mono|apply LeO.refl|apply LeO.none|apply LeO.ite|refine LeO.bind ?_ (fun _ => ?_)
  ·intro y0 y1 y2 y3
   unfold impl_PatternParts.l0
   repeat' with_reducible first|apply ih0|apply ih1|apply impl_alternatives.mono|apply LeO.refl|apply LeO.none|apply LeO.ite|refine LeO.bind ?_ (fun _ => ?_)
theorem impl_PatternParts.mono : ∀ a0 a1 k,LeO (impl_PatternParts.f k a0 a1) (impl_PatternParts.f (k + 1) a0 a1):=by
 intro a0 a1 k
 obtain ⟨ih0,ih1⟩:=impl_PatternParts.mono_l k
 unfold impl_PatternParts.f
 repeat' with_reducible first|apply ih0|apply ih1|apply impl_alternatives.mono|apply LeO.refl|apply LeO.none|apply LeO.ite|refine LeO.bind ?_ (fun _ => ?_)
theorem impl_PatternParts.calls (k : Nat) (a0 : ByteArray) (a1 : ByteArray) (r1 : List ByteArray) (r2 : Bool) (w : World) (h : impl_PatternParts.f k a0 a1 = some (r1,r2)) :
  Calls Tryz.prog 65 #[.string a0,.string a1] w fun e w' => ∃ v0_ : Value,e = .returned (.tuple #[v0_,.bool r2]) ∧ Kd.R Kd.string 9 w' w.heap.size (fun _ => True) v0_ r1 ∧ Below w.heap.size w w':=by
 have HB:=am_ (Below.refl w.heap.size w);have H : ((impl_alternatives.f k a0).bind fun bt1001 => (if bt1001.2 = true then (impl_PatternParts.j0 k a1 bt1001.1 (decide ((a1.size : Int) > 100))) else (impl_PatternParts.j0 k a1 bt1001.1 true))) = some (r1,r2):=h;clear h;replace H:=Option.bind_eq_some_iff.mp H;obtain ⟨⟨t1001,t1002⟩,A30,H⟩:=H;replace H : (if t1002 = true then (impl_PatternParts.j0 k a1 t1001 (decide ((a1.size : Int) > 100))) else (impl_PatternParts.j0 k a1 t1001 true)) = some (r1,r2):=H;have A3:=am_ A30;clear A30;have HC4:=am_ H;clear H;go_enter Tryz.func65,Tryz.ntmps65;go_upto_region 2 with (first|((with_reducible refine gate_callee (f:=85) rfl ?_);refine gl_ 14 Tryz.func85 #[.string a0] ?_;(with_reducible refine (impl_alternatives.calls k a0 t1001 t1002 _ A3.out).mono ?_);rintro e w5 ⟨v1003,rfl,ho0,hb⟩;refine ⟨_,rfl,?_⟩;have HO1004:=am_ (Kd.S_lower ho0 (below_size bl_));replace HB:=am_ (below_step bl_ hb);(try clear hb);(try clear ho0)));(try simp only [Act.put,List.setIfInBounds_toArray,List.set_cons_zero,List.set_cons_succ])
 go_cut [23] (fun v23 wc => ∃ (kq : Nat) (x23_3 : Bool),v23 = .bool x23_3 ∧ Aside0 (impl_PatternParts.j0 kq a1 t1001 x23_3 = some (r1,r2)) ∧ Aside0 (kq ≤ k) ∧ Aside0 (Kd.S (Kd.slice 108 k108) 104 wc w.heap.size (fun _ => True) v1003 t1001) ∧ Aside0 (Below w.heap.size w wc))
 case first =>
  have H:=HC4.out;clear HC4
  by_cases c6 : t1002 = true
  ·subst c6;replace H:=it_ H;have H':=am_ H;clear H;go_wp2;go_meet
   case rel => exact ⟨_,(decide ((a1.size : Int) > 100)),rs_,H',⟨by first|omega|exact Nat.le_refl _⟩,⟨by (with_reducible repeat (first|apply Kd.S_alloc|apply Kd.S_drewN|apply Kd.S_drew));exact HO1004.out⟩,⟨bl_⟩⟩
  ·replace c6:=Bool.eq_false_iff.mpr c6;subst c6;replace H:=if_ H;have H':=am_ H;clear H;go_wp2;go_meet
   case rel => exact ⟨_,(true),rs_,H',⟨by first|omega|exact Nat.le_refl _⟩,⟨by (with_reducible repeat (first|apply Kd.S_alloc|apply Kd.S_drewN|apply Kd.S_drew));exact HO1004.out⟩,⟨bl_⟩⟩
 case rest =>
  clear HC4;obtain ⟨kq,x23_3,rfl,HA,HJ3,HO_6,HB⟩:=hcut
  cases kq with
  | zero => exact absurd HA.out (by simp [impl_PatternParts.j0])
  | succ kj3 =>
   have H:=HA.out;clear HA;simp only [impl_PatternParts.j0] at H
   by_cases c7 : x23_3 = true
   ·subst c7;replace H:=it_ H;simp only [Option.some.injEq,Prod.mk.injEq] at H;obtain ⟨rfl,rfl⟩:=H;go_wp2;go_ret2;exact ⟨_,rf_,ni_,bl_⟩
   ·replace c7:=Bool.eq_false_iff.mpr c7;subst c7;replace H:=if_ H;have H':=am_ H;clear H;obtain ⟨Ao8,co8,eo8⟩:=Kd.S_slice HO_6.out;subst eo8;go_wp2
    go_loopg [26] kj3 (fun kq v26 w' => ∃ (x26_2 : Int),v26 = .int .i64 x26_2 ∧ Aside0 (impl_PatternParts.l0 kq a1 t1001 (t1001.length : Int) x26_2 = some (r1,r2)) ∧ Aside0 (kq ≤ kj3) ∧ Aside0 (Kd.S (Kd.slice 108 k108) 104 w' w.heap.size (fun _ => True) (.slice Ao8 t1001.length co8) t1001) ∧ Aside0 (Below w.heap.size w w'))
    case atStart => exact ⟨(0),rs_,H',⟨Nat.le_refl _⟩,⟨by (with_reducible repeat (first|apply Kd.S_alloc|apply Kd.S_drewN|apply Kd.S_drew));exact HO_6.out⟩,⟨bl_⟩⟩
    case round =>
     clear H';(try clear c7);obtain ⟨x26_2,rfl,HA,HK2,HO_24,HB⟩:=hrel
     cases gk with
     | zero => exact absurd HA.out (by simp [impl_PatternParts.l0])
     | succ k2 =>
      have H:=HA.out;clear HA;simp only [impl_PatternParts.l0] at H
      by_cases c9 : x26_2 < (t1001.length : Int)
      ·rw [if_pos c9] at H;have c9b0:=decide_eq_true c9;clear c9;replace H:=is_ H;obtain ⟨c10,H⟩:=H;have c10b0:=decide_eq_true c10;clear c10;replace H:=is_ H;obtain ⟨c11,H⟩:=H;have c11b0:=decide_eq_true c11;clear c11;replace H:=Option.bind_eq_some_iff.mp H;obtain ⟨⟨t1006,t1007⟩,A120,H⟩:=H;replace H : (if t1007 = true then (some (t1006,true)) else (impl_PatternParts.l0 k2 a1 t1001 (t1001.length : Int) (wrap64 (x26_2 + 1)))) = some (r1,r2):=H;have A12:=am_ A120;clear A120
       by_cases c13 : t1007 = true
       ·subst c13;replace H:=it_ H;simp only [Option.some.injEq,Prod.mk.injEq] at H;obtain ⟨rfl,rfl⟩:=H;have p1005 : 0 ≤ (x26_2 : Int):=od_;have q1005 : x26_2 < (t1001.length : Int):=od_;obtain ⟨ad1005,A1005_0,c1005_0,e1005,hx1005_0,hl1005_0,hi1005_0⟩:=at_L8 (Kd.S_reads' HO_24.out).2.2 x26_2 p1005 q1005
        cases e1005
        obtain ⟨ce1005,hce1005,hMe1005,hcc1005⟩:=Kd.S_get HO_24.out [] x26_2 p1005 (by first|exact q1005|exact od_|(have e_:=(Kd.S_reads' HO_24.out).1;omega));obtain ⟨ve1005_0,rfl,ge1005_0⟩:=hMe1005;have hv1005_0:=hcc1005 0 _ rfl;rw [Nat.add_zero,show ((Kd.slice 108 k108)).sz = 1 from rfl,Nat.mul_one] at hv1005_0;replace hv1005_0:=Option.some.inj (hv1005_0.symm.trans hx1005_0);rw [hv1005_0] at ge1005_0;have HL1005_0:=am_ (show Kd.R k108 108 _ _ _ _ (rd_L8 t1001 x26_2) from ge1005_0);clear hv1005_0 ge1005_0;clear hcc1005 hce1005;have HR1005_0:=am_ hi1005_0;have HC1005_0:=am_ hl1005_0;clear hi1005_0 hl1005_0;replace p1005:=eq_true p1005;replace q1005:=eq_true q1005;go_wp2_with (first|((with_reducible refine gate_callee (f:=90) rfl ?_);refine gl_ 33 Tryz.func90 #[.slice A1005_0 (rd_L8 t1001 x26_2).length c1005_0,.string a1] ?_;(with_reducible refine (impl_parts.calls _ _ (rd_L8 t1001 x26_2) a1 t1006 true _ ?side1 ?side2 A12.out).mono ?_);(case side1 => repeat (first|exact (by repeat (first|(with_reducible exact HR1005_0.out)|(with_reducible refine Kd.C_alloc ?_ _)|(with_reducible refine Kd.C_drewN ?_ _)|(with_reducible refine Kd.C_drew ?_)|exact HR1005_0.out))|(with_reducible refine Kd.C_alloc ?_ _)|(with_reducible refine Kd.C_drewN ?_ _)|(with_reducible refine Kd.C_drew ?_)));(case side2 => exact HC1005_0.out);rintro e w14 ⟨v1008,rfl,ho0,hb⟩;refine ⟨_,rfl,?_⟩;have HO1009:=am_ (Kd.R_lower ho0 (below_size bl_));replace HO_24:=am_ (Kd.S_below (by (with_reducible repeat (first|apply Kd.S_alloc|apply Kd.S_drewN|apply Kd.S_drew));exact HO_24.out) hb);replace HL1005_0:=am_ (Kd.R_below (ro_ HL1005_0) hb);replace HR1005_0:=am_ (Kd.C_below (by repeat (first|(with_reducible exact HR1005_0.out)|(with_reducible refine Kd.C_alloc ?_ _)|(with_reducible refine Kd.C_drewN ?_ _)|(with_reducible refine Kd.C_drew ?_)|exact HR1005_0.out)) hb);replace HB:=am_ (below_step bl_ hb);(try clear hb);(try clear ho0)));go_ret2;exact ⟨_,rf_,by (with_reducible repeat (first|apply Kd.R_alloc|apply Kd.R_drewN|apply Kd.R_drew));exact HO1009.out,bl_⟩
       ·replace c13:=Bool.eq_false_iff.mpr c13;subst c13;replace H:=if_ H;have H':=am_ H;clear H;have p1005 : 0 ≤ (x26_2 : Int):=od_;have q1005 : x26_2 < (t1001.length : Int):=od_;obtain ⟨ad1005,A1005_0,c1005_0,e1005,hx1005_0,hl1005_0,hi1005_0⟩:=at_L8 (Kd.S_reads' HO_24.out).2.2 x26_2 p1005 q1005
        cases e1005
        obtain ⟨ce1005,hce1005,hMe1005,hcc1005⟩:=Kd.S_get HO_24.out [] x26_2 p1005 (by first|exact q1005|exact od_|(have e_:=(Kd.S_reads' HO_24.out).1;omega));obtain ⟨ve1005_0,rfl,ge1005_0⟩:=hMe1005;have hv1005_0:=hcc1005 0 _ rfl;rw [Nat.add_zero,show ((Kd.slice 108 k108)).sz = 1 from rfl,Nat.mul_one] at hv1005_0;replace hv1005_0:=Option.some.inj (hv1005_0.symm.trans hx1005_0);rw [hv1005_0] at ge1005_0;have HL1005_0:=am_ (show Kd.R k108 108 _ _ _ _ (rd_L8 t1001 x26_2) from ge1005_0);clear hv1005_0 ge1005_0;clear hcc1005 hce1005;have HR1005_0:=am_ hi1005_0;have HC1005_0:=am_ hl1005_0;clear hi1005_0 hl1005_0;replace p1005:=eq_true p1005;replace q1005:=eq_true q1005;go_wp2_with (first|((with_reducible refine gate_callee (f:=90) rfl ?_);refine gl_ 33 Tryz.func90 #[.slice A1005_0 (rd_L8 t1001 x26_2).length c1005_0,.string a1] ?_;(with_reducible refine (impl_parts.calls _ _ (rd_L8 t1001 x26_2) a1 t1006 false _ ?side1 ?side2 A12.out).mono ?_);(case side1 => repeat (first|exact (by repeat (first|(with_reducible exact HR1005_0.out)|(with_reducible refine Kd.C_alloc ?_ _)|(with_reducible refine Kd.C_drewN ?_ _)|(with_reducible refine Kd.C_drew ?_)|exact HR1005_0.out))|(with_reducible refine Kd.C_alloc ?_ _)|(with_reducible refine Kd.C_drewN ?_ _)|(with_reducible refine Kd.C_drew ?_)));(case side2 => exact HC1005_0.out);rintro e w15 ⟨v1008,rfl,ho0,hb⟩;refine ⟨_,rfl,?_⟩;have HO1009:=am_ (Kd.R_lower ho0 (below_size bl_));replace HO_24:=am_ (Kd.S_below (by (with_reducible repeat (first|apply Kd.S_alloc|apply Kd.S_drewN|apply Kd.S_drew));exact HO_24.out) hb);replace HL1005_0:=am_ (Kd.R_below (ro_ HL1005_0) hb);replace HR1005_0:=am_ (Kd.C_below (by repeat (first|(with_reducible exact HR1005_0.out)|(with_reducible refine Kd.C_alloc ?_ _)|(with_reducible refine Kd.C_drewN ?_ _)|(with_reducible refine Kd.C_drew ?_)|exact HR1005_0.out)) hb);replace HB:=am_ (below_step bl_ hb);(try clear hb);(try clear ho0)));go_roundg k2
        case measure => have:=HJ3.out;have:=HK2.out;omega
        case rel => exact ⟨(wrap64 (x26_2 + 1)),rs_,H',⟨by have:=HJ3.out;have:=HK2.out;omega⟩,⟨by (with_reducible repeat (first|apply Kd.S_alloc|apply Kd.S_drewN|apply Kd.S_drew));exact HO_24.out⟩,⟨bl_⟩⟩
      ·rw [if_neg c9] at H;have c9b0:=decide_eq_false c9;clear c9;simp only [Option.some.injEq,Prod.mk.injEq] at H;obtain ⟨rfl,rfl⟩:=H;go_wp2;go_ret2;exact ⟨_,rf_,ni_,bl_⟩
mutual
def impl_with.l0 : Nat → ByteArray → ByteArray → List (S53) → Bool → List (S53) → Int → Int → Option ((List (S53)))
 | 0,_,_,_,_,_,_,_ => none
 | k + 1,x1,x2,x7,x8,x13,x14,x15 => if x15 < x14 then (if 0 ≤ x15 then (if x15 < (x13.length : Int) then (if x8 = true then (impl_with.j1 k x1 x2 x7 x8 x13 x14 x15 false ((rd_T53 x13 x15).f0) ((rd_T53 x13 x15).f1)) else (impl_with.j1 k x1 x2 x7 x8 x13 x14 x15 (!(Op.bytesLess (((rd_T53 x13 x15).f0).toList) x1.toList)) ((rd_T53 x13 x15).f0) ((rd_T53 x13 x15).f1))) else (none)) else (none)) else (if x8 = true then (some x7) else (if x7.length < 4398046511104 then (some (x7 ++ [(⟨x1,x2⟩ : S53)])) else (none)))
def impl_with.j1 : Nat → ByteArray → ByteArray → List (S53) → Bool → List (S53) → Int → Int → Bool → ByteArray → ByteArray → Option ((List (S53)))
 | 0,_,_,_,_,_,_,_,_,_,_ => none
 | k + 1,x1,x2,x7,x8,x13,x14,x15,x26,x1006000,x1006001 => if x26 = true then (if x7.length < 4398046511104 then ((some (x7 ++ [(⟨x1,x2⟩ : S53)] : List (S53))).bind fun y1006 => (if x1006000.toList = x1.toList then (impl_with.l0 k x1 x2 y1006 true x13 x14 (wrap64 (x15 + 1))) else (if y1006.length < 4398046511104 then (impl_with.l0 k x1 x2 (y1006 ++ [(⟨x1006000,x1006001⟩ : S53)]) true x13 x14 (wrap64 (x15 + 1))) else (none)))) else (none)) else (if x1006000.toList = x1.toList then (impl_with.l0 k x1 x2 x7 x8 x13 x14 (wrap64 (x15 + 1))) else (if x7.length < 4398046511104 then (impl_with.l0 k x1 x2 (x7 ++ [(⟨x1006000,x1006001⟩ : S53)]) x8 x13 x14 (wrap64 (x15 + 1))) else (none)))
end
def impl_with.f (k : Nat) (l0 : List (S53)) (a1 : ByteArray) (a2 : ByteArray) : Option ((List (S53))):=impl_with.l0 k a1 a2 ([] : List (S53)) (a2.toList == ([] : List UInt8)) l0 (l0.length : Int) 0
theorem impl_with.mono_l : ∀ k,(∀ y0 y1 y2 y3 y4 y5 y6,LeO (impl_with.l0 k y0 y1 y2 y3 y4 y5 y6) (impl_with.l0 (k + 1) y0 y1 y2 y3 y4 y5 y6)) ∧ (∀ y0 y1 y2 y3 y4 y5 y6 y7 y8 y9,LeO (impl_with.j1 k y0 y1 y2 y3 y4 y5 y6 y7 y8 y9) (impl_with.j1 (k + 1) y0 y1 y2 y3 y4 y5 y6 y7 y8 y9))
 | 0 => ⟨fun _ _ _ _ _ _ _ r h => by simp [impl_with.l0] at h,fun _ _ _ _ _ _ _ _ _ _ r h => by simp [impl_with.j1] at h⟩
 | k + 1 => by
  obtain ⟨ih0,ih1⟩:=impl_with.mono_l k
  refine ⟨?_,?_⟩
  ·intro y0 y1 y2 y3 y4 y5 y6
   unfold impl_with.l0
   repeat' with_reducible first|apply ih0|apply ih1|apply LeO.refl|apply LeO.none|apply LeO.ite|refine LeO.bind ?_ (fun _ => ?_)
  ·intro y0 y1 y2 y3 y4 y5 y6 y7 y8 y9
   unfold impl_with.j1
   repeat' with_reducible first|apply ih0|apply ih1|apply LeO.refl|apply LeO.none|apply LeO.ite|refine LeO.bind ?_ (fun _ => ?_)
theorem impl_with.mono : ∀ a0 a1 a2 k,LeO (impl_with.f k a0 a1 a2) (impl_with.f (k + 1) a0 a1 a2):=by
 intro a0 a1 a2 k
 obtain ⟨ih0,ih1⟩:=impl_with.mono_l k
 unfold impl_with.f
 repeat' with_reducible first|apply ih0|apply ih1|apply LeO.refl|apply LeO.none|apply LeO.ite|refine LeO.bind ?_ (fun _ => ?_)
theorem impl_with.calls (k : Nat) (A0 : Option Addr) (c0 : Nat) (l0 : List (S53)) (a1 : ByteArray) (a2 : ByteArray) (r : List (S53)) (w : World) (hr0 : Kd.C k53 w A0 l0.length l0) (hc0 : l0.length ≤ c0) (h : impl_with.f k l0 a1 a2 = some r) :
  Calls Tryz.prog 66 #[.slice A0 l0.length c0,.string a1,.string a2] w fun e w' => ∃ v0_ : Value,e = .returned (v0_) ∧ Kd.R k53 53 w' w.heap.size (fun _ => True) v0_ r ∧ Below w.heap.size w w':=by
 have hu53:=Tryz.underlying53;have HR0:=am_ hr0;have HC0:=am_ hc0;clear hr0 hc0;have HB:=am_ (Below.refl w.heap.size w);have H:=h;clear h;unfold impl_with.f at H;have H':=am_ H;clear H;go_enter Tryz.func66,Tryz.ntmps66;go_wp2
 go_loopg [7,8,15] k (fun kq v7 v8 v15 w' => ∃ (x7_1 : List (S53)) (x8_1 : Bool) (x15_1 : Int),v8 = .bool x8_1 ∧ v15 = .int .i64 x15_1 ∧ Aside0 (impl_with.l0 kq a1 a2 x7_1 x8_1 l0 (l0.length : Int) x15_1 = some r) ∧ Aside0 (kq ≤ k) ∧ Aside0 (Kd.R k53 53 w' w.heap.size (fun _ => True) v7 x7_1) ∧ Aside0 (Below w.heap.size w w'))
 case atStart => exact ⟨(([] : List (S53))),((a2.toList == ([] : List UInt8))),(0),rs_,rs_,H',⟨Nat.le_refl _⟩,⟨ni_⟩,⟨bl_⟩⟩
 case round =>
  clear H';obtain ⟨x7_1,x8_1,x15_1,rfl,rfl,HA,HK1,HO_7,HB⟩:=hrel
  cases gk with
  | zero => exact absurd HA.out (by simp [impl_with.l0])
  | succ k1 =>
   have H:=HA.out;clear HA;simp only [impl_with.l0] at H
   by_cases c4 : x15_1 < (l0.length : Int)
   ·rw [if_pos c4] at H;have c4b0:=decide_eq_true c4;clear c4;replace H:=is_ H;obtain ⟨c5,H⟩:=H;have c5b0:=decide_eq_true c5;clear c5;replace H:=is_ H;obtain ⟨c6,H⟩:=H;have c6b0:=decide_eq_true c6;clear c6;have HC7:=am_ H;clear H;have p1004 : 0 ≤ (x15_1 : Int):=od_;have q1004 : x15_1 < (l0.length : Int):=od_;obtain ⟨ad1004,e1004,hx1004_0,hx1004_1⟩:=at_T53 HR0.out x15_1 p1004 q1004
    cases e1004
    replace hx1004_0:=kp_ HB hx1004_0;replace hx1004_1:=kp_ HB hx1004_1;replace p1004:=eq_true p1004;replace q1004:=eq_true q1004;go_upto_region 6 with (first|((with_reducible refine gate_dst (N:=10) rfl ?_);refine bx_ 10 #[.string (⟨#[]⟩ : ByteArray),.string (⟨#[]⟩ : ByteArray)] 53 ?_;intro gb1005 hg w8 hbox hb;have BK1005:=am_ (hbox);have GW1005:=am_ (gs_ hg : w.heap.size ≤ gb1005);replace HO_7:=am_ (Kd.R_below (Kd.R_elderB (ro_ HO_7) gb1005 (Nat.le_of_eq hg.symm)) hb);replace HB:=am_ (below_step bl_ hb);have GE1005:=GW1005;clear hb hbox hg;have hz9:=bk2_ BK1005));(try simp only [Act.put,List.setIfInBounds_toArray,List.set_cons_zero,List.set_cons_succ])
    go_cut [26] (fun v26 wc => ∃ (kq : Nat) (x26_6 : Bool),v26 = .bool x26_6 ∧ Aside0 (impl_with.j1 kq a1 a2 x7_1 x8_1 l0 (l0.length : Int) x15_1 x26_6 ((rd_T53 l0 x15_1).f0) ((rd_T53 l0 x15_1).f1) = some r) ∧ Aside0 (kq ≤ k1) ∧ Aside0 (Kd.R k53 53 wc w.heap.size (fun k_ => k_ ≠ gb1005) u7 x7_1) ∧ Aside0 (wc.heap[gb1005]? = some (.cells #[.string ((rd_T53 l0 x15_1).f0),.string ((rd_T53 l0 x15_1).f1)] 53 (0,0))) ∧ Aside0 (Below w.heap.size w wc))
    case first =>
     have H:=HC7.out;clear HC7
     by_cases c10 : x8_1 = true
     ·subst c10;replace H:=it_ H;have H':=am_ H;clear H;go_wp2;go_meet
      case rel => exact ⟨_,(false),rs_,H',⟨by have:=HK1.out;first|omega|exact Nat.le_refl _⟩,⟨by (with_reducible repeat (first|apply Kd.R_alloc|apply Kd.R_drewN|apply Kd.R_drew));exact Kd.R_mono (Kd.R_far (p:=⟨gb1005,1,none⟩) (Kd.R_far (p:=⟨gb1005,0,none⟩) (Kd.R_mono HO_7.out (fun k_ hk => (⟨hk,hk.2⟩ : _ ∧ k_ ≠ gb1005))) (fun _ hk => hk.2) (.string ((rd_T53 l0 x15_1).f0))) (fun _ hk => hk.2) (.string ((rd_T53 l0 x15_1).f1))) (fun _ hk => hk.1.2)⟩,⟨by (with_reducible repeat (first|refine blk_drewN ?_ _|refine blk_drew ?_|refine blk_alloc ?_ _));refine blk_put (cs:=#[.string ((rd_T53 l0 x15_1).f0),.string (⟨#[]⟩ : ByteArray)]) ?_ 1 _ rfl;(with_reducible repeat (first|refine blk_drewN ?_ _|refine blk_drew ?_|refine blk_alloc ?_ _));refine blk_put (cs:=#[.string (⟨#[]⟩ : ByteArray),.string (⟨#[]⟩ : ByteArray)]) ?_ 0 _ rfl;(with_reducible repeat (first|refine blk_drewN ?_ _|refine blk_drew ?_|refine blk_alloc ?_ _));exact BK1005.out⟩,⟨bg_⟩⟩
     ·replace c10:=Bool.eq_false_iff.mpr c10;subst c10;replace H:=if_ H;have H':=am_ H;clear H;have hz11:=bk2_ BK1005;go_wp2;go_meet
      case rel => exact ⟨_,(!(Op.bytesLess (((rd_T53 l0 x15_1).f0).toList) a1.toList)),rs_,H',⟨by have:=HK1.out;first|omega|exact Nat.le_refl _⟩,⟨by (with_reducible repeat (first|apply Kd.R_alloc|apply Kd.R_drewN|apply Kd.R_drew));exact Kd.R_mono (Kd.R_far (p:=⟨gb1005,1,none⟩) (Kd.R_far (p:=⟨gb1005,0,none⟩) (Kd.R_mono HO_7.out (fun k_ hk => (⟨hk,hk.2⟩ : _ ∧ k_ ≠ gb1005))) (fun _ hk => hk.2) (.string ((rd_T53 l0 x15_1).f0))) (fun _ hk => hk.2) (.string ((rd_T53 l0 x15_1).f1))) (fun _ hk => hk.1.2)⟩,⟨by (with_reducible repeat (first|refine blk_drewN ?_ _|refine blk_drew ?_|refine blk_alloc ?_ _));refine blk_put (cs:=#[.string ((rd_T53 l0 x15_1).f0),.string (⟨#[]⟩ : ByteArray)]) ?_ 1 _ rfl;(with_reducible repeat (first|refine blk_drewN ?_ _|refine blk_drew ?_|refine blk_alloc ?_ _));refine blk_put (cs:=#[.string (⟨#[]⟩ : ByteArray),.string (⟨#[]⟩ : ByteArray)]) ?_ 0 _ rfl;(with_reducible repeat (first|refine blk_drewN ?_ _|refine blk_drew ?_|refine blk_alloc ?_ _));exact BK1005.out⟩,⟨bg_⟩⟩
    case rest =>
     clear HC7;(try clear c4);(try clear c4b0);(try clear c5);(try clear c5b0);(try clear c6);(try clear c6b0);(try clear hz9);(try clear hx1004_0);(try clear hx1004_1);(try clear p1004);(try clear q1004);obtain ⟨kq,x26_6,rfl,HA,HJ6,HO_7,BK1005,HB⟩:=hcut
     cases kq with
     | zero => exact absurd HA.out (by simp [impl_with.j1])
     | succ kj6 =>
      have H:=HA.out;clear HA;simp only [impl_with.j1] at H
      by_cases c12 : x26_6 = true
      ·subst c12;replace H:=it_ H;replace H:=is_ H;obtain ⟨c13,H⟩:=H;have LMc13:=am_ c13;clear c13;obtain ⟨y1006,hy1006⟩ : ∃ y_ : List (S53),y_ = (x7_1 ++ [(⟨a1,a2⟩ : S53)]):=⟨_,rfl⟩;replace H : (if ((rd_T53 l0 x15_1).f0).toList = a1.toList then (impl_with.l0 kj6 a1 a2 y1006 true l0 (l0.length : Int) (wrap64 (x15_1 + 1))) else (if y1006.length < 4398046511104 then (impl_with.l0 kj6 a1 a2 (y1006 ++ [(⟨((rd_T53 l0 x15_1).f0),((rd_T53 l0 x15_1).f1)⟩ : S53)]) true l0 (l0.length : Int) (wrap64 (x15_1 + 1))) else (none))) = some r:=by first|(rw [hy1006];with_reducible exact H)|(have H2_:=(Option.bind_some _ _).symm.trans H;rw [hy1006];with_reducible exact H2_)|(have H2_:=(Option.bind_some _ _).symm.trans H;with_reducible exact H2_)|with_reducible exact H|(rw [hy1006];exact H)|exact H
       have Ny1006:=am_ hy1006;clear hy1006
       by_cases c14 : ((rd_T53 l0 x15_1).f0).toList = a1.toList
       ·rw [if_pos c14] at H;have c14b0:=eb_ c14;have c14b1:=en_ c14;clear c14;have H':=am_ H;clear H;go_wp2_with (first|((with_reducible refine gate_builtin (b:=.append) (xs:=#[.tmp 27,.tmp 31]) rfl ?_);at_builtin;refine Kd.R_append k53 (w0:=w) w.heap.size rfl (.tmp 27) (.tmp 31) 28 53 (.agg #[(.string ⟨#[]⟩),(.string ⟨#[]⟩)]) 32 rfl Tryz.underlying28 info53 rfl (by decide) (by omega) u7 x7_1 (⟨a1,a2⟩ : S53) [.string a1,.string a2] (fun k_ => k_ ≠ gb1005) (fun _ => False) rfl rfl ?aP (fun _ hk => hk.elim) ?aF ?aO ?aB ?aS ?aL ?_;(case aP => exact k53_mkM _ _ _ (⟨a1,a2⟩ : S53));(case aB => exact bg_);(case aF => exact (fun k_ hk => Kd.freshB (g:=gb1005) (o:=.cells #[.string ((rd_T53 l0 x15_1).f0),.string ((rd_T53 l0 x15_1).f1)] 53 (0,0)) (vk_ BK1005) k_ hk));(case aO => exact (ro_ HO_7));(case aS => exact (below_size bg_));(case aL => have:=LMc13.out;omega);intro v1007 w15 ho hb hg hat;rw [← Ny1006.out] at ho;have n0_:=am_ (blk_grown (g:=gb1005) (o:=.cells #[.string ((rd_T53 l0 x15_1).f0),.string ((rd_T53 l0 x15_1).f1)] 53 (0,0)) (vk_ BK1005) hg (Kd.R_away HO_7.out (fun _ hk => hk)));have n1_:=am_ (hb);have n2_:=am_ (ho);clear BK1005;clear HB;clear HO_7;have BK1005:=n0_;have HB:=n1_;have HO1008:=n2_;clear n0_ n1_ n2_;clear ho hb hg hat;have hz16:=bk2_ BK1005));go_roundg kj6
        case measure => have:=HK1.out;have:=HJ6.out;omega
        case rel => exact ⟨(y1006),(true),(wrap64 (x15_1 + 1)),rs_,rs_,H',⟨by have:=HK1.out;have:=HJ6.out;omega⟩,⟨by (with_reducible repeat (first|apply Kd.R_alloc|apply Kd.R_drewN|apply Kd.R_drew));exact Kd.R_mono HO1008.out (fun _ hk => trivial)⟩,⟨bg_⟩⟩
       ·rw [if_neg c14] at H;have c14b0:=nb_ c14;have c14b1:=nn_ c14;replace H:=is_ H;obtain ⟨c17,H⟩:=H;have LMc17:=am_ c17;clear c17;obtain ⟨y1009,hy1009⟩ : ∃ y_ : List (S53),y_ = (y1006 ++ [(⟨((rd_T53 l0 x15_1).f0),((rd_T53 l0 x15_1).f1)⟩ : S53)]):=⟨_,rfl⟩;replace H : (impl_with.l0 kj6 a1 a2 y1009 true l0 (l0.length : Int) (wrap64 (x15_1 + 1))) = some r:=by first|(rw [hy1009];with_reducible exact H)|(have H2_:=(Option.bind_some _ _).symm.trans H;rw [hy1009];with_reducible exact H2_)|(have H2_:=(Option.bind_some _ _).symm.trans H;with_reducible exact H2_)|with_reducible exact H|(rw [hy1009];exact H)|exact H
        have Ny1009:=am_ hy1009;clear hy1009;have H':=am_ H;clear H;go_wp2_with (first|((with_reducible refine gate_builtin (b:=.append) (xs:=#[.tmp 27,.tmp 31]) rfl ?_);at_builtin;refine Kd.R_append k53 (w0:=w) w.heap.size rfl (.tmp 27) (.tmp 31) 28 53 (.agg #[(.string ⟨#[]⟩),(.string ⟨#[]⟩)]) 32 rfl Tryz.underlying28 info53 rfl (by decide) (by omega) u7 x7_1 (⟨a1,a2⟩ : S53) [.string a1,.string a2] (fun k_ => k_ ≠ gb1005) (fun _ => False) rfl rfl ?aP (fun _ hk => hk.elim) ?aF ?aO ?aB ?aS ?aL ?_;(case aP => exact k53_mkM _ _ _ (⟨a1,a2⟩ : S53));(case aB => exact bg_);(case aF => exact (fun k_ hk => Kd.freshB (g:=gb1005) (o:=.cells #[.string ((rd_T53 l0 x15_1).f0),.string ((rd_T53 l0 x15_1).f1)] 53 (0,0)) (vk_ BK1005) k_ hk));(case aO => exact (ro_ HO_7));(case aS => exact (below_size bg_));(case aL => have:=LMc13.out;omega);intro v1007 w18 ho hb hg hat;rw [← Ny1006.out] at ho;have n0_:=am_ (blk_grown (g:=gb1005) (o:=.cells #[.string ((rd_T53 l0 x15_1).f0),.string ((rd_T53 l0 x15_1).f1)] 53 (0,0)) (vk_ BK1005) hg (Kd.R_away HO_7.out (fun _ hk => hk)));have n1_:=am_ (hb);have n2_:=am_ (ho);clear BK1005;clear HB;clear HO_7;have BK1005:=n0_;have HB:=n1_;have HO1008:=n2_;clear n0_ n1_ n2_;clear ho hb hg hat;have hz19:=bk2_ BK1005)|((with_reducible refine gate_builtin (b:=.append) (xs:=#[.tmp 37,.tmp 39]) rfl ?_);at_builtin;refine Kd.R_append k53 (w0:=w) w.heap.size rfl (.tmp 37) (.tmp 39) 28 53 (.agg #[(.string ⟨#[]⟩),(.string ⟨#[]⟩)]) 32 rfl Tryz.underlying28 info53 rfl (by decide) (by omega) v1007 y1006 (⟨((rd_T53 l0 x15_1).f0),((rd_T53 l0 x15_1).f1)⟩ : S53) [.string ((rd_T53 l0 x15_1).f0),.string ((rd_T53 l0 x15_1).f1)] (fun k_ => k_ ≠ gb1005) (fun _ => False) rfl rfl ?aP (fun _ hk => hk.elim) ?aF ?aO ?aB ?aS ?aL ?_;(case aP => exact k53_mkM _ _ _ (⟨((rd_T53 l0 x15_1).f0),((rd_T53 l0 x15_1).f1)⟩ : S53));(case aB => exact bg_);(case aF => exact (fun k_ hk => Kd.freshB (g:=gb1005) (o:=.cells #[.string ((rd_T53 l0 x15_1).f0),.string ((rd_T53 l0 x15_1).f1)] 53 (0,0)) (vk_ BK1005) k_ hk));(case aO => exact (ro_ HO1008));(case aS => exact (below_size bg_));(case aL => have:=LMc17.out;omega);intro v1010 w20 ho hb hg hat;rw [← Ny1009.out] at ho;have n0_:=am_ (blk_grown (g:=gb1005) (o:=.cells #[.string ((rd_T53 l0 x15_1).f0),.string ((rd_T53 l0 x15_1).f1)] 53 (0,0)) (vk_ BK1005) hg (Kd.R_away HO1008.out (fun _ hk => hk)));have n1_:=am_ (hb);have n2_:=am_ (ho);clear BK1005;clear HB;clear HO1008;have BK1005:=n0_;have HB:=n1_;have HO1011:=n2_;clear n0_ n1_ n2_;clear ho hb hg hat));go_roundg kj6
        case measure => have:=HK1.out;have:=HJ6.out;omega
        case rel => exact ⟨(y1009),(true),(wrap64 (x15_1 + 1)),rs_,rs_,H',⟨by have:=HK1.out;have:=HJ6.out;omega⟩,⟨by (with_reducible repeat (first|apply Kd.R_alloc|apply Kd.R_drewN|apply Kd.R_drew));exact Kd.R_mono HO1011.out (fun _ hk => trivial)⟩,⟨bg_⟩⟩
      ·replace c12:=Bool.eq_false_iff.mpr c12;subst c12;replace H:=if_ H
       by_cases c21 : ((rd_T53 l0 x15_1).f0).toList = a1.toList
       ·rw [if_pos c21] at H;have c21b0:=eb_ c21;have c21b1:=en_ c21;clear c21;have H':=am_ H;clear H;have hz22:=bk2_ BK1005;go_wp2;go_roundg kj6
        case measure => have:=HK1.out;have:=HJ6.out;omega
        case rel => exact ⟨(x7_1),(x8_1),(wrap64 (x15_1 + 1)),rs_,rs_,H',⟨by have:=HK1.out;have:=HJ6.out;omega⟩,⟨by (with_reducible repeat (first|apply Kd.R_alloc|apply Kd.R_drewN|apply Kd.R_drew));exact Kd.R_mono HO_7.out (fun _ hk => trivial)⟩,⟨bg_⟩⟩
       ·rw [if_neg c21] at H;have c21b0:=nb_ c21;have c21b1:=nn_ c21;replace H:=is_ H;obtain ⟨c23,H⟩:=H;have LMc23:=am_ c23;clear c23;obtain ⟨y1012,hy1012⟩ : ∃ y_ : List (S53),y_ = (x7_1 ++ [(⟨((rd_T53 l0 x15_1).f0),((rd_T53 l0 x15_1).f1)⟩ : S53)]):=⟨_,rfl⟩;replace H : (impl_with.l0 kj6 a1 a2 y1012 x8_1 l0 (l0.length : Int) (wrap64 (x15_1 + 1))) = some r:=by first|(rw [hy1012];with_reducible exact H)|(have H2_:=(Option.bind_some _ _).symm.trans H;rw [hy1012];with_reducible exact H2_)|(have H2_:=(Option.bind_some _ _).symm.trans H;with_reducible exact H2_)|with_reducible exact H|(rw [hy1012];exact H)|exact H
        have Ny1012:=am_ hy1012;clear hy1012;have H':=am_ H;clear H;have hz24:=bk2_ BK1005;go_wp2_with (first|((with_reducible refine gate_builtin (b:=.append) (xs:=#[.tmp 37,.tmp 39]) rfl ?_);at_builtin;refine Kd.R_append k53 (w0:=w) w.heap.size rfl (.tmp 37) (.tmp 39) 28 53 (.agg #[(.string ⟨#[]⟩),(.string ⟨#[]⟩)]) 32 rfl Tryz.underlying28 info53 rfl (by decide) (by omega) u7 x7_1 (⟨((rd_T53 l0 x15_1).f0),((rd_T53 l0 x15_1).f1)⟩ : S53) [.string ((rd_T53 l0 x15_1).f0),.string ((rd_T53 l0 x15_1).f1)] (fun k_ => k_ ≠ gb1005) (fun _ => False) rfl rfl ?aP (fun _ hk => hk.elim) ?aF ?aO ?aB ?aS ?aL ?_;(case aP => exact k53_mkM _ _ _ (⟨((rd_T53 l0 x15_1).f0),((rd_T53 l0 x15_1).f1)⟩ : S53));(case aB => exact bg_);(case aF => exact (fun k_ hk => Kd.freshB (g:=gb1005) (o:=.cells #[.string ((rd_T53 l0 x15_1).f0),.string ((rd_T53 l0 x15_1).f1)] 53 (0,0)) (vk_ BK1005) k_ hk));(case aO => exact (ro_ HO_7));(case aS => exact (below_size bg_));(case aL => have:=LMc23.out;omega);intro v1013 w25 ho hb hg hat;rw [← Ny1012.out] at ho;have n0_:=am_ (blk_grown (g:=gb1005) (o:=.cells #[.string ((rd_T53 l0 x15_1).f0),.string ((rd_T53 l0 x15_1).f1)] 53 (0,0)) (vk_ BK1005) hg (Kd.R_away HO_7.out (fun _ hk => hk)));have n1_:=am_ (hb);have n2_:=am_ (ho);clear BK1005;clear HB;clear HO_7;have BK1005:=n0_;have HB:=n1_;have HO1014:=n2_;clear n0_ n1_ n2_;clear ho hb hg hat));go_roundg kj6
        case measure => have:=HK1.out;have:=HJ6.out;omega
        case rel => exact ⟨(y1012),(x8_1),(wrap64 (x15_1 + 1)),rs_,rs_,H',⟨by have:=HK1.out;have:=HJ6.out;omega⟩,⟨by (with_reducible repeat (first|apply Kd.R_alloc|apply Kd.R_drewN|apply Kd.R_drew));exact Kd.R_mono HO1014.out (fun _ hk => trivial)⟩,⟨bg_⟩⟩
   ·rw [if_neg c4] at H;have c4b0:=decide_eq_false c4;clear c4
    by_cases c26 : x8_1 = true
    ·subst c26;replace H:=it_ H;obtain rfl:=si_ H;go_wp2;go_ret;exact ⟨_,rf_,by (with_reducible repeat (first|apply Kd.R_alloc|apply Kd.R_drewN|apply Kd.R_drew));exact HO_7.out,bl_⟩
    ·replace c26:=Bool.eq_false_iff.mpr c26;subst c26;replace H:=if_ H;replace H:=is_ H;obtain ⟨c27,H⟩:=H;have LMc27:=am_ c27;clear c27;obtain ⟨y1001,hy1001⟩ : ∃ y_ : List (S53),y_ = (x7_1 ++ [(⟨a1,a2⟩ : S53)]):=⟨_,rfl⟩;replace H : (some y1001) = some r:=by first|(rw [hy1001];with_reducible exact H)|(have H2_:=(Option.bind_some _ _).symm.trans H;rw [hy1001];with_reducible exact H2_)|(have H2_:=(Option.bind_some _ _).symm.trans H;with_reducible exact H2_)|with_reducible exact H|(rw [hy1001];exact H)|exact H
     have Ny1001:=am_ hy1001;clear hy1001;obtain rfl:=si_ H;go_wp2_with (first|((with_reducible refine gate_builtin (b:=.append) (xs:=#[.tmp 44,.tmp 48]) rfl ?_);at_builtin;refine Kd.R_append k53 (w0:=w) w.heap.size rfl (.tmp 44) (.tmp 48) 28 53 (.agg #[(.string ⟨#[]⟩),(.string ⟨#[]⟩)]) 32 rfl Tryz.underlying28 info53 rfl (by decide) (by omega) u7 x7_1 (⟨a1,a2⟩ : S53) [.string a1,.string a2] (fun _ => True) (fun _ => False) rfl rfl ?aP (fun _ hk => hk.elim) ?aF ?aO ?aB ?aS ?aL ?_;(case aP => exact k53_mkM _ _ _ (⟨a1,a2⟩ : S53));(case aB => exact bl_);(case aF => exact (fun _ _ => trivial));(case aO => exact (ro_ HO_7));(case aS => exact (below_size bl_));(case aL => have:=LMc27.out;omega);intro v1002 w28 ho hb hg hat;rw [← Ny1001.out] at ho;have n0_:=am_ (hb);have n1_:=am_ (ho);clear HB;clear HO_7;have HB:=n0_;have HO1003:=n1_;clear n0_ n1_;clear ho hb hg hat));go_ret;exact ⟨_,rf_,by (with_reducible repeat (first|apply Kd.R_alloc|apply Kd.R_drewN|apply Kd.R_drew));exact HO1003.out,bl_⟩
def fv_ren : Go.Shelf.Ren:=⟨fun|166 => 88|167 => 91|240 => 97|276 => 101|n => n,fun|31 => 23|9 => 9|3 => 3|4 => 4|0 => 0|20 => 20|72 => 97|76 => 101|70 => 95|37 => 70|75 => 100|127 => 112|164 => 114|5 => 5|80 => 103|n => n,fun|n => n⟩
theorem fv_lays166 : Go.Proofs.Lays.n166 Tryz.prog fv_ren:={
  mixed:=by kernel_rfl
  f166:=Tryz.func88.trans (congrArg some (by kernel_rfl))
  f240:=Tryz.func97.trans (congrArg some (by kernel_rfl))
  f276:=Tryz.func101.trans (congrArg some (by kernel_rfl))
  t0:=Tryz.underlying0
  a0:=Tryz.isAgg0
  z0:=Tryz.sizeOf0
  v0:=Tryz.zeroValue0
  t3:=Tryz.underlying3
  a3:=Tryz.isAgg3
  z3:=Tryz.sizeOf3
  v3:=Tryz.zeroValue3
  t4:=Tryz.underlying4
  a4:=Tryz.isAgg4
  z4:=Tryz.sizeOf4
  v4:=Tryz.zeroValue4
  t9:=Tryz.underlying9
  a9:=Tryz.isAgg9
  z9:=Tryz.sizeOf9
  v9:=Tryz.zeroValue9
  t20:=Tryz.underlying20
  a20:=Tryz.isAgg20
  z20:=Tryz.sizeOf20
  v20:=Tryz.zeroValue20
  t37:=Tryz.underlying70
  a37:=Tryz.isAgg70
  z37:=Tryz.sizeOf70
  v37:=Tryz.zeroValue70
  t70:=Tryz.underlying95
  a70:=Tryz.isAgg95
  z70:=Tryz.sizeOf95
  v70:=Tryz.zeroValue95
  t72:=Tryz.underlying97
  a72:=Tryz.isAgg97
  z72:=Tryz.sizeOf97
  v72:=Tryz.zeroValue97
  t75:=Tryz.underlying100
  a75:=Tryz.isAgg100
  z75:=Tryz.sizeOf100
  v75:=Tryz.zeroValue100
  t164:=Tryz.underlying114
  a164:=Tryz.isAgg114
  z164:=Tryz.sizeOf114
  v164:=Tryz.zeroValue114 }
theorem fv_lays167 : Go.Proofs.Lays.n167 Tryz.prog fv_ren:={
  mixed:=by kernel_rfl
  f167:=Tryz.func91.trans (congrArg some (by kernel_rfl))
  f240:=Tryz.func97.trans (congrArg some (by kernel_rfl))
  f276:=Tryz.func101.trans (congrArg some (by kernel_rfl))
  t0:=Tryz.underlying0
  a0:=Tryz.isAgg0
  z0:=Tryz.sizeOf0
  v0:=Tryz.zeroValue0
  t4:=Tryz.underlying4
  a4:=Tryz.isAgg4
  z4:=Tryz.sizeOf4
  v4:=Tryz.zeroValue4
  t5:=Tryz.underlying5
  a5:=Tryz.isAgg5
  z5:=Tryz.sizeOf5
  v5:=Tryz.zeroValue5
  t9:=Tryz.underlying9
  a9:=Tryz.isAgg9
  z9:=Tryz.sizeOf9
  v9:=Tryz.zeroValue9
  t20:=Tryz.underlying20
  a20:=Tryz.isAgg20
  z20:=Tryz.sizeOf20
  v20:=Tryz.zeroValue20
  t37:=Tryz.underlying70
  a37:=Tryz.isAgg70
  z37:=Tryz.sizeOf70
  v37:=Tryz.zeroValue70
  t70:=Tryz.underlying95
  a70:=Tryz.isAgg95
  z70:=Tryz.sizeOf95
  v70:=Tryz.zeroValue95
  t72:=Tryz.underlying97
  a72:=Tryz.isAgg97
  z72:=Tryz.sizeOf97
  v72:=Tryz.zeroValue97
  t75:=Tryz.underlying100
  a75:=Tryz.isAgg100
  z75:=Tryz.sizeOf100
  v75:=Tryz.zeroValue100
  t164:=Tryz.underlying114
  a164:=Tryz.isAgg114
  z164:=Tryz.sizeOf114
  v164:=Tryz.zeroValue114 }
theorem fv_extra : Go.Proofs.Builder.Extra Tryz.prog fv_ren:={
  sizeBuilder:=by kernel_rfl
  liesBuilder:=by kernel_rfl
  t5:=Tryz.underlying5
  a5:=Tryz.isAgg5
  z5:=Tryz.sizeOf5
  v5:=Tryz.zeroValue5
  infoByte:=by kernel_rfl
  cellsByte:=by kernel_rfl
  sizeByte:=by kernel_rfl
  neB5:=by decide }
theorem fv_wb (B b : Nat) (bs : List Value) (c : Int) (w : World) (h : Lib.IsBuilder 97 5 B b bs w) (hlen : bs.length + 1 ≤ 140737488355328) (hBw : B ≤ w.heap.size) :
    Calls Tryz.prog 91 #[.pointer (some ⟨b,0,none⟩),.int .u8 c] w fun e w' => e = .returned .nilIface ∧ (Lib.BuilderAt 97 5 B b (.pointer (some ⟨b,0,none⟩)) (bs ++ [.int .u8 c]) w' ∧ Below B w w'):=Any.Builder_WriteByte fv_lays167 fv_extra B b bs c w h hlen hBw
theorem fv_ws (B b : Nat) (bs : List Value) (s : ByteArray) (w : World) (h : Lib.IsBuilder 97 5 B b bs w) (hlen : bs.length + s.size ≤ 140737488355328) (hBw : B ≤ w.heap.size) :
    Calls Tryz.prog 88 #[.pointer (some ⟨b,0,none⟩),.string s] w fun e w' => e = .returned (.tuple #[.int .i64 s.size,.nilIface]) ∧ (Lib.BuilderAt 97 5 B b (.pointer (some ⟨b,0,none⟩)) (bs ++ Lib.strCells s) w' ∧ Below B w w'):=Any.Builder_WriteString fv_lays166 fv_extra B b bs s w h hlen hBw
theorem fv_append (a b : ByteArray) : Lib.strCells (a ++ b) = Lib.strCells a ++ Lib.strCells b:=by
  simp [Lib.strCells,ByteArray.data_append]
theorem fv_one (s : ByteArray) (i : Int) (h : i.toNat < s.size) : Lib.strCells (s.extract i.toNat (i.toNat + 1)) = [.int .u8 (bt s i)]:=by
  rw [← bt_at s i h]
  unfold Lib.strCells
  rw [ByteArray.data_extract,Array.toList_extract]
  have e : s.data.toList.drop i.toNat = s[i.toNat] :: s.data.toList.drop (i.toNat + 1):=List.drop_eq_getElem_cons h
  simp [List.extract_eq_take_drop,e]
def impl_FillValue.l0 : Nat → ByteArray → List ByteArray → ByteArray → Int → Option (ByteArray)
 | 0,_,_,_,_ => none
 | k + 1,x0,x1,x5,x6 => if x6 < (x0.size : Int) then (if 0 ≤ x6 then (if (bt x0 x6) = 36 then (if 0 ≤ (wrap64 (x6 + 1)) then (if (wrap64 (x6 + 1)) < (x0.size : Int) then (if (bt x0 (wrap64 (x6 + 1))) = 36 then (if x5.size + 1 ≤ 140737488355328 then (impl_FillValue.l0 k x0 x1 (x5 ++ (⟨#[36]⟩ : ByteArray)) (wrap64 ((wrap64 (x6 + 1)) + 1))) else (none)) else (if (((bt x0 (wrap64 (x6 + 1))) - 49) % 256) < (x1.length : Int) then (if 0 ≤ (((bt x0 (wrap64 (x6 + 1))) - 49) % 256) then (if x5.size + (rdOf ByteArray.empty x1 (((bt x0 (wrap64 (x6 + 1))) - 49) % 256)).size ≤ 140737488355328 then (impl_FillValue.l0 k x0 x1 (x5 ++ (rdOf ByteArray.empty x1 (((bt x0 (wrap64 (x6 + 1))) - 49) % 256))) (wrap64 ((wrap64 (x6 + 1)) + 1))) else (none)) else (none)) else (impl_FillValue.l0 k x0 x1 x5 (wrap64 ((wrap64 (x6 + 1)) + 1))))) else (none)) else (none)) else (if x5.size + 1 ≤ 140737488355328 then (impl_FillValue.l0 k x0 x1 (x5 ++ (x0.extract (x6 : Int).toNat ((x6 : Int).toNat + 1))) (wrap64 (x6 + 1))) else (none))) else (none)) else (some x5)
def impl_FillValue.f (k : Nat) (a0 : ByteArray) (l1 : List ByteArray) : Option (ByteArray):=(impl_isFilling.f k a0).bind fun t1 => (if t1 = true then (if (l1.length : Int) > 100 then (some (⟨#[]⟩ : ByteArray)) else impl_FillValue.l0 k a0 l1 (⟨#[]⟩ : ByteArray) 0) else (some (⟨#[]⟩ : ByteArray)))
theorem impl_FillValue.mono_l : ∀ k,(∀ y0 y1 y2 y3,LeO (impl_FillValue.l0 k y0 y1 y2 y3) (impl_FillValue.l0 (k + 1) y0 y1 y2 y3))
 | 0 => fun _ _ _ _ r h => by simp [impl_FillValue.l0] at h
 | k + 1 => by
  have ih0:=impl_FillValue.mono_l k
  intro y0 y1 y2 y3
  unfold impl_FillValue.l0
  repeat' with_reducible first|exact ih0 _ _ _ _|exact LeO.refl _|exact LeO.none _|refine LeO.ite ?_ ?_|refine LeO.bind ?_ (fun _ => ?_)
theorem impl_FillValue.mono : ∀ a0 a1 k,LeO (impl_FillValue.f k a0 a1) (impl_FillValue.f (k + 1) a0 a1):=by
 intro a0 a1 k
 have ih0:=impl_FillValue.mono_l k
 unfold impl_FillValue.f
 repeat' with_reducible first|exact impl_isFilling.mono _ _|exact ih0 _ _ _ _|exact LeO.refl _|exact LeO.none _|refine LeO.ite ?_ ?_|refine LeO.bind ?_ (fun _ => ?_)
theorem impl_FillValue.calls (k : Nat) (a0 : ByteArray) (A1 : Option Addr) (c1 : Nat) (l1 : List ByteArray) (r : ByteArray) (w : World) (hr1 : Kd.C Kd.string w A1 l1.length l1) (hc1 : l1.length ≤ c1) (h : impl_FillValue.f k a0 l1 = some r) :
  Calls Tryz.prog 67 #[.string a0,.slice A1 l1.length c1] w fun e w' => e = .returned (.string r) ∧ Below w.heap.size w w':=by
 have HR1:=am_ hr1
 have HC1:=am_ hc1
 clear hr1 hc1
 have H : ((impl_isFilling.f k a0).bind fun t1 => (if t1 = true then (if (l1.length : Int) > 100 then (some (⟨#[]⟩ : ByteArray)) else impl_FillValue.l0 k a0 l1 (⟨#[]⟩ : ByteArray) 0) else (some (⟨#[]⟩ : ByteArray)))) = some r:=h
 clear h
 obtain ⟨t1,hg,H⟩:=Option.bind_eq_some_iff.mp H
 have HG:=am_ hg
 clear hg
 have v49:=Tryz.zeroValue97
 have z49:=Tryz.sizeOf97
 have a49:=Tryz.isAgg97
 have t49:=Tryz.underlying97
 by_cases c0 : t1 = true
 · rw [if_pos c0] at H
   subst c0
   by_cases c2 : (l1.length : Int) > 100
   · rw [if_pos c2] at H
     obtain rfl:=Option.some.inj H
     have c2b : decide ((l1.length : Int) > 100) = true:=decide_eq_true c2
     clear H
     go_enter Tryz.func67,Tryz.ntmps67
     go_wp2_with (go_at_call 62;(with_reducible refine (impl_isFilling.calls k _ true _ HG.out).mono ?_);rintro e w' ⟨rfl,⟨m1,rfl⟩⟩)
     go_ret
     exact ⟨rf_,pw_below_drewN (Below.refl _ _) _⟩
   · rw [if_neg c2] at H
     have c2b : decide ((l1.length : Int) > 100) = false:=decide_eq_false c2
     have H':=am_ H
     clear H
     go_enter Tryz.func67,Tryz.ntmps67
     go_wp2_with (go_at_call 62;(with_reducible refine (impl_isFilling.calls k _ true _ HG.out).mono ?_);rintro e w' ⟨rfl,⟨m1,rfl⟩⟩)
     go_loopg [6] k (fun kq v6 w' => ∃ (x5_1 : ByteArray) (x6_1 : Int),v6 = .int .i64 x6_1 ∧ Aside0 (impl_FillValue.l0 kq a0 l1 x5_1 x6_1 = some r) ∧ Aside0 (kq ≤ k) ∧ Lib.IsBuilder 97 5 w.heap.size w.heap.size (Lib.strCells x5_1) w' ∧ Below w.heap.size w w')
     case atStart => exact ⟨⟨#[]⟩,0,rs_,H',⟨Nat.le_refl _⟩,Lib.fresh_isBuilder 97 5 (w.drewN m1),(pw_below_drewN (Below.refl _ _) _).alloc (Nat.le_refl _) _⟩
     case round =>
      clear H'
      obtain ⟨x5_1,x6_1,rfl,HA,HK1,hI,hb⟩:=hrel
      have HB:=am_ hb
      have HI:=am_ hI
      clear hb hI
      have hlc : ∀ s : ByteArray,(Lib.strCells s).length = s.size:=Lib.strCells_length
      cases gk with
      | zero => exact absurd HA.out (by simp [impl_FillValue.l0])
      | succ k1 =>
       have H:=HA.out
       clear HA
       simp only [impl_FillValue.l0] at H
       by_cases c3 : x6_1 < (a0.size : Int)
       ·rw [if_pos c3] at H
        have c3b0 : decide (x6_1 < (a0.size : Int)) = true:=decide_eq_true c3
        by_cases c4 : 0 ≤ x6_1
        ·rw [if_pos c4] at H
         have c4b0 : decide (0 ≤ x6_1) = true:=decide_eq_true c4
         by_cases c6 : (bt a0 x6_1) = 36
         ·rw [if_pos c6] at H
          have c6b0 : ((bt a0 x6_1) == 36) = true:=beq_iff_eq.mpr c6
          have c6b1 : ((bt a0 x6_1) != 36) = false:=bne_eq_false_iff_eq.mpr c6
          obtain ⟨ji7,hji7⟩ : ∃ j_ : Int,(wrap64 (x6_1 + 1)) = j_:=⟨_,rfl⟩
          rw [hji7] at H
          have hji7w : (IntKind.i64.wrap (x6_1 + 1)) = ji7:=(i64_w _).trans hji7
          by_cases c8 : 0 ≤ (ji7)
          ·rw [if_pos c8] at H
           have c8b0 : decide (0 ≤ (ji7)) = true:=decide_eq_true c8
           by_cases c9 : (ji7) < (a0.size : Int)
           ·rw [if_pos c9] at H
            have c9b0 : decide ((ji7) < (a0.size : Int)) = true:=decide_eq_true c9
            have p5 : 0 ≤ (x6_1 : Int):=od_
            have q5 : x6_1 < (a0.size : Int):=od_
            have hx5:=bt_at a0 x6_1
            replace p5:=eq_true p5
            replace q5:=eq_true q5
            have p10 : 0 ≤ ((ji7) : Int):=od_
            have q10 : (ji7) < (a0.size : Int):=od_
            have hx10:=bt_at a0 (ji7)
            replace p10:=eq_true p10
            replace q10:=eq_true q10
            by_cases c11 : (bt a0 (ji7)) = 36
            ·rw [if_pos c11] at H
             have c11b0 : ((bt a0 (ji7)) == 36) = true:=beq_iff_eq.mpr c11
             have c11b1 : ((bt a0 (ji7)) != 36) = false:=bne_eq_false_iff_eq.mpr c11
             by_cases c12 : x5_1.size + 1 ≤ 140737488355328
             ·rw [if_pos c12] at H
              have C12:=am_ c12
              have H':=am_ H
              clear H c12 c3 c4 c6 c8 c9 c11
              go_wp2_with (go_at_call 91;(with_reducible refine (fv_wb w.heap.size w.heap.size _ 36 _ HI.out (by rw [hlc];exact C12.out) HB.out.size).mono ?_);rintro e wz ⟨rfl,hI,hb⟩)
              go_roundg k1
              case measure => have:=HK1.out;omega
              case rel => exact ⟨x5_1 ++ ⟨#[36]⟩,wrap64 (ji7 + 1),rs_,H',⟨by have:=HK1.out;omega⟩,by rw [fv_append];exact Or.inr hI,HB.out.trans hb⟩
             ·rw [if_neg c12] at H
              exact absurd H (by simp)
            ·rw [if_neg c11] at H
             have c11b0 : ((bt a0 (ji7)) == 36) = false:=beq_eq_false_iff_ne.mpr c11
             have c11b1 : ((bt a0 (ji7)) != 36) = true:=bne_iff_ne.mpr c11
             by_cases c14 : (((bt a0 (ji7)) - 49) % 256) < (l1.length : Int)
             ·rw [if_pos c14] at H
              have c14b0 : decide ((((bt a0 (ji7)) - 49) % 256) < (l1.length : Int)) = true:=decide_eq_true c14
              obtain ⟨ji15,hji15⟩ : ∃ j_ : Int,(((bt a0 (ji7)) - 49) % 256) = j_:=⟨_,rfl⟩
              rw [hji15] at H c14b0 c14
              by_cases c16 : 0 ≤ (ji15)
              ·rw [if_pos c16] at H
               have c16b0 : decide (0 ≤ (ji15)) = true:=decide_eq_true c16
               by_cases c17 : x5_1.size + (rdOf ByteArray.empty l1 (ji15)).size ≤ 140737488355328
               ·rw [if_pos c17] at H
                have C17:=am_ c17
                have H':=am_ H
                have p1001 : 0 ≤ ((ji15) : Int):=od_
                have q1001 : (ji15) < (l1.length : Int):=od_
                obtain ⟨ad1001,e1001,hx1001_0⟩:=Kd.at_string (Kd.C_below HR1.out HB.out) (ji15) p1001 q1001
                cases e1001
                replace p1001:=eq_true p1001
                replace q1001:=eq_true q1001
                clear H c17 c3 c4 c6 c8 c9 c11 c14 c16
                go_wp2_with (go_at_call 88;(with_reducible refine (fv_ws w.heap.size w.heap.size _ (rdOf ByteArray.empty l1 (ji15)) _ HI.out (by rw [hlc];exact C17.out) HB.out.size).mono ?_);rintro e wz ⟨rfl,hI,hb⟩)
                go_roundg k1
                case measure => have:=HK1.out;omega
                case rel => exact ⟨x5_1 ++ rdOf ByteArray.empty l1 ji15,wrap64 (ji7 + 1),rs_,H',⟨by have:=HK1.out;omega⟩,by rw [fv_append];exact Or.inr hI,HB.out.trans hb⟩
               ·rw [if_neg c17] at H
                exact absurd H (by simp)
              ·rw [if_neg c16] at H
               exact absurd H (by simp)
             ·rw [if_neg c14] at H
              have c14b0 : decide ((((bt a0 (ji7)) - 49) % 256) < (l1.length : Int)) = false:=decide_eq_false c14
              have H':=am_ H
              clear H c3 c4 c6 c8 c9 c11 c14
              go_wp2
              go_roundg k1
              case measure => have:=HK1.out;omega
              case rel => exact ⟨x5_1,wrap64 (ji7 + 1),rs_,H',⟨by have:=HK1.out;omega⟩,HI.out,HB.out⟩
           ·rw [if_neg c9] at H
            exact absurd H (by simp)
          ·rw [if_neg c8] at H
           exact absurd H (by simp)
         ·rw [if_neg c6] at H
          have c6b0 : ((bt a0 x6_1) == 36) = false:=beq_eq_false_iff_ne.mpr c6
          have c6b1 : ((bt a0 x6_1) != 36) = true:=bne_iff_ne.mpr c6
          by_cases c21 : x5_1.size + 1 ≤ 140737488355328
          ·rw [if_pos c21] at H
           have C21:=am_ c21
           have H':=am_ H
           have E1:=am_ (fv_one a0 x6_1 (by omega))
           have p5 : 0 ≤ (x6_1 : Int):=od_
           have q5 : x6_1 < (a0.size : Int):=od_
           have hx5:=bt_at a0 x6_1
           replace p5:=eq_true p5
           replace q5:=eq_true q5
           clear H c21 c3 c4 c6
           go_wp2_with (go_at_call 91;(with_reducible refine (fv_wb w.heap.size w.heap.size _ (bt a0 x6_1) _ HI.out (by rw [hlc];exact C21.out) HB.out.size).mono ?_);rintro e wz ⟨rfl,hI,hb⟩)
           go_roundg k1
           case measure => have:=HK1.out;omega
           case rel => exact ⟨x5_1 ++ a0.extract x6_1.toNat (x6_1.toNat + 1),wrap64 (x6_1 + 1),rs_,H',⟨by have:=HK1.out;omega⟩,by rw [fv_append,E1.out];exact Or.inr hI,HB.out.trans hb⟩
          ·rw [if_neg c21] at H
           exact absurd H (by simp)
        ·rw [if_neg c4] at H
         exact absurd H (by simp)
       ·rw [if_neg c3] at H
        have c3b0 : decide (x6_1 < (a0.size : Int)) = false:=decide_eq_false c3
        clear c3
        obtain rfl:=Option.some.inj H
        clear H
        have HJ : Aside0 (Lib.IsBuilder 97 5 w.heap.size w.heap.size (Lib.byteCells x5_1.data.toList) wr):=am_ HI.out
        go_wp2_with (go_at_call 89;(with_reducible refine (Tryz.Builder_String_any w.heap.size w.heap.size x5_1.data.toList _ HJ.out HB.out.size).mono ?_);rintro e wz ⟨rfl,hb⟩)
        go_ret
        exact ⟨by first|rfl|simp,HB.out.trans hb⟩
 · rw [if_neg c0] at H
   obtain rfl:=Option.some.inj H
   obtain rfl : t1 = false:=Bool.eq_false_iff.2 c0
   clear H
   go_enter Tryz.func67,Tryz.ntmps67
   go_wp2_with (go_at_call 62;(with_reducible refine (impl_isFilling.calls k _ false _ HG.out).mono ?_);rintro e w' ⟨rfl,⟨m1,rfl⟩⟩)
   go_ret
   exact ⟨rf_,pw_below_drewN (Below.refl _ _) _⟩
def strconv_Itoa_92.f (a0 : Int) : Option (ByteArray):=if -9223372036854775808 ≤ a0 ∧ a0 ≤ 9223372036854775807 then some ⟨(Lib.itoa a0).toArray⟩ else none
theorem strconv_Itoa_92.calls (a0 : Int) (r : ByteArray) (w : World) (h : strconv_Itoa_92.f a0 = some r) (hT1 : Tg1 w:=by exact Tg1.below hT1 bg_) :
  Calls Tryz.prog 92 #[.int .i64 a0] w fun e w' => e = .returned (.string r) ∧ Below w.heap.size w w':=by
 unfold strconv_Itoa_92.f at h
 split at h
 ·rename_i hl
  obtain rfl:=Option.some.inj h
  exact (Tryz.strconv_Itoa a0 hl.1 hl.2 w hT1.c).mono (fun e w' hp => ⟨hp.1,by obtain ⟨k,os,rfl⟩:=hp.2;exact Lib.below_grow _ w (Nat.le_refl _) k os⟩)
 ·cases h
def impl_digitsOf.f (a0 : Int) : Option (ByteArray):=(strconv_Itoa_92.f a0).bind fun t1001 => (some t1001)
theorem impl_digitsOf.calls (a0 : Int) (r : ByteArray) (w : World) (h : impl_digitsOf.f a0 = some r) (hT1 : Tg1 w:=by exact Tg1.below hT1 bg_) :
  Calls Tryz.prog 68 #[.int .i64 a0] w fun e w' => e = .returned (.string r) ∧ Below w.heap.size w w':=by
 have HB:=am_ (Below.refl w.heap.size w);have H:=h;clear h;unfold impl_digitsOf.f at H;replace H:=bs_ H;obtain ⟨t1001,A2,H⟩:=H;obtain rfl:=si_ H;go_enter Tryz.func68,Tryz.ntmps68;go_wp2_with (first|((with_reducible refine gate_callee (f:=92) rfl ?_);refine gl_ 4 Tryz.func92 #[.int .i64 a0] ?_;(with_reducible refine (strconv_Itoa_92.calls a0 t1001 _ A2.out).mono ?_);rintro e w3 ⟨rfl,hb⟩;refine ⟨_,rfl,?_⟩;replace HB:=am_ (below_step bl_ hb);(try clear hb)));go_ret;exact ⟨rf_,bl_⟩
def impl_Mix.l0 : Nat → Int → List Int → Int → Int → Option (Int)
 | 0,_,_,_,_ => none
 | k + 1,x3,x6,x7,x8 => if x8 < x7 then (if 0 ≤ x8 then (if x8 < (x6.length : Int) then (impl_Mix.l0 k (Go.bits .xor .u64 (IntKind.u64.wrap ((Go.bits .xor .u64 x3 (IntKind.u64.wrap (rd x6 x8))) * 1099511628211)) ((IntKind.u64.wrap ((Go.bits .xor .u64 x3 (IntKind.u64.wrap (rd x6 x8))) * 1099511628211)) / 536870912)) x6 x7 (wrap64 (x8 + 1))) else (none)) else (none)) else (some (wrap64 (x3 / 2)))
def impl_Mix.f (k : Nat) (l0 : List Int) : Option (Int):=impl_Mix.l0 k 1469598103 l0 (l0.length : Int) 0
theorem impl_Mix.mono_l : ∀ k,(∀ y0 y1 y2 y3,LeO (impl_Mix.l0 k y0 y1 y2 y3) (impl_Mix.l0 (k + 1) y0 y1 y2 y3))
 | 0 => fun _ _ _ _ r h => by simp [impl_Mix.l0] at h
 | k + 1 => by
  have ih0:=impl_Mix.mono_l k
  ·intro y0 y1 y2 y3
   unfold impl_Mix.l0
   repeat' with_reducible first|apply ih0|apply LeO.refl|apply LeO.none|apply LeO.ite|refine LeO.bind ?_ (fun _ => ?_)
theorem impl_Mix.mono : ∀ a0 k,LeO (impl_Mix.f k a0) (impl_Mix.f (k + 1) a0):=by
 intro a0 k
 have ih0:=impl_Mix.mono_l k
 unfold impl_Mix.f
 repeat' with_reducible first|apply ih0|apply LeO.refl|apply LeO.none|apply LeO.ite|refine LeO.bind ?_ (fun _ => ?_)
theorem impl_Mix.calls (k : Nat) (A0 : Option Addr) (c0 : Nat) (l0 : List Int) (r : Int) (w : World) (hr0 : Kd.C (Kd.int .u8) w A0 l0.length l0) (hc0 : l0.length ≤ c0) (h : impl_Mix.f k l0 = some r) :
  Calls Tryz.prog 69 #[.slice A0 l0.length c0] w fun e w' => e = .returned (.int .i64 r) ∧ Drawn0 w w':=by
 have HR0:=am_ hr0;have HC0:=am_ hc0;clear hr0 hc0;have H:=h;clear h;unfold impl_Mix.f at H;have H':=am_ H;clear H;go_enter Tryz.func69,Tryz.ntmps69;go_wp2
 go_loopg [3,8] k (fun kq v3 v8 w' => ∃ (x3_1 : Int) (x8_1 : Int),v3 = .int .u64 x3_1 ∧ v8 = .int .i64 x8_1 ∧ Aside0 (impl_Mix.l0 kq x3_1 l0 (l0.length : Int) x8_1 = some r) ∧ Aside0 (kq ≤ k) ∧ Drawn0 w w')
 case atStart => exact ⟨(1469598103),(0),rs_,rs_,H',⟨Nat.le_refl _⟩,by repeat (first|exact Drawn0.refl _|apply Drawn0.step)⟩
 case round =>
  clear H';obtain ⟨x3_1,x8_1,rfl,rfl,HA,HK1,⟨m1,rfl⟩⟩:=hrel
  cases gk with
  | zero => exact absurd HA.out (by simp [impl_Mix.l0])
  | succ k1 =>
   have H:=HA.out;clear HA;simp only [impl_Mix.l0] at H
   by_cases c2 : x8_1 < (l0.length : Int)
   ·rw [if_pos c2] at H;have c2b0:=decide_eq_true c2;clear c2;replace H:=is_ H;obtain ⟨c3,H⟩:=H;have c3b0:=decide_eq_true c3;clear c3;replace H:=is_ H;obtain ⟨c4,H⟩:=H;have c4b0:=decide_eq_true c4;clear c4;have H':=am_ H;clear H;have p1001 : 0 ≤ (x8_1 : Int):=od_;have q1001 : x8_1 < (l0.length : Int):=od_;obtain ⟨ad1001,e1001,hx1001_0⟩:=Kd.at_int HR0.out x8_1 p1001 q1001
    cases e1001
    replace p1001:=eq_true p1001;replace q1001:=eq_true q1001;go_wp2;go_roundg k1
    case measure => have:=HK1.out;omega
    case rel => exact ⟨(Go.bits .xor .u64 (IntKind.u64.wrap ((Go.bits .xor .u64 x3_1 (IntKind.u64.wrap (rd l0 x8_1))) * 1099511628211)) ((IntKind.u64.wrap ((Go.bits .xor .u64 x3_1 (IntKind.u64.wrap (rd l0 x8_1))) * 1099511628211)) / 536870912)),(wrap64 (x8_1 + 1)),rs_,rs_,H',⟨by have:=HK1.out;omega⟩,by repeat (first|exact Drawn0.refl _|apply Drawn0.step)⟩
   ·rw [if_neg c2] at H;have c2b0:=decide_eq_false c2;clear c2;obtain rfl:=si_ H;go_wp2;go_ret;exact ⟨by first|rfl|(simp;done)|(simp [*];done),by repeat (first|exact Drawn0.refl _|apply Drawn0.step)⟩
def impl_Label_71.l0 (P : S53 → Option Bool) (l0 : List (S53)) : Nat → List (S53) → Int → Option (List (S53))
 | 0,_,_ => none
 | k + 1,x5,x10 => if x10 < (l0.length : Int) then (if 0 ≤ x10 then ((P (⟨(rd_T53 l0 x10).f0,(rd_T53 l0 x10).f1⟩ : S53)).bind fun b => (if b = true then (if x5.length < 4398046511104 then (impl_Label_71.l0 P l0 k (x5 ++ [(⟨(rd_T53 l0 x10).f0,(rd_T53 l0 x10).f1⟩ : S53)]) (wrap64 (x10 + 1))) else none) else (impl_Label_71.l0 P l0 k x5 (wrap64 (x10 + 1))))) else none) else some x5
def impl_Label_71.f (k : Nat) (P : S53 → Option Bool) (l0 : List (S53)) : Option (List (S53)):=impl_Label_71.l0 P l0 k [] 0
theorem impl_Label_71.mono_l (P P' : S53 → Option Bool) (hP : ∀ x,LeO (P x) (P' x)) (l0 : List (S53)) : ∀ k x5 x10,LeO (impl_Label_71.l0 P l0 k x5 x10) (impl_Label_71.l0 P' l0 (k + 1) x5 x10)
 | 0,_,_ => LeO.none _
 | k + 1,x5,x10 => by
  have ih:=impl_Label_71.mono_l P P' hP l0 k
  unfold impl_Label_71.l0
  exact LeO.ite (LeO.ite (LeO.bind (hP _) (fun _ => LeO.ite (LeO.ite (ih _ _) (LeO.none _)) (ih _ _))) (LeO.none _)) (LeO.refl _)
theorem impl_Label_71.mono (P P' : S53 → Option Bool) (hP : ∀ x,LeO (P x) (P' x)) (l0 : List (S53)) (k : Nat) : LeO (impl_Label_71.f k P l0) (impl_Label_71.f (k + 1) P' l0):=impl_Label_71.mono_l P P' hP l0 k _ _
theorem impl_Label_71.calls (k : Nat) (P : S53 → Option Bool) (g : Nat) (lb : Array Value) (eg : ∀ args w,(callFunc g args).run Tryz.prog w = .ok (.enter g args) w) (A0 : Option Addr) (c0 : Nat) (l0 : List (S53)) (r : List (S53)) (w : World) (hr0 : Kd.C k53 w A0 l0.length l0) (hc0 : l0.length ≤ c0)
  (hP : ∀ (W : World) (x : S53) (b : Bool),Below w.heap.size w W → P x = some b → Calls Tryz.prog g (#[.agg #[.string (x.f0),.string (x.f1)]] ++ lb) W fun e w' => e = .returned (.bool b) ∧ Below W.heap.size W w') (h : impl_Label_71.f k P l0 = some r) :
  Calls Tryz.prog 71 #[.slice A0 l0.length c0,.func (.func g) #[] lb] w fun e w' => ∃ v0_ : Value,e = .returned (v0_) ∧ Kd.R k53 53 w' w.heap.size (fun _ => True) v0_ r ∧ Below w.heap.size w w':=by
 have hu:=Tryz.underlying53
 have HR0:=am_ hr0
 have HC0:=am_ hc0
 clear hr0 hc0
 have HB:=am_ (Below.refl w.heap.size w)
 have hP':=am_ hP
 clear hP
 have H':=am_ (show impl_Label_71.l0 P l0 k [] 0 = some r from h)
 clear h
 go_enter Tryz.func71,Tryz.ntmps71
 go_wp2
 go_loopg [5,10] k (fun kq v5 v10 w' => ∃ (x5_1 : List (S53)) (x10_1 : Int),v10 = .int .i64 x10_1 ∧ Aside0 (impl_Label_71.l0 P l0 kq x5_1 x10_1 = some r) ∧ Aside0 (Kd.R k53 53 w' w.heap.size (fun _ => True) v5 x5_1) ∧ Aside0 (Below w.heap.size w w'))
 case atStart => exact ⟨[],0,rs_,H',⟨ni_⟩,⟨bl_⟩⟩
 case round =>
  clear H'
  obtain ⟨x5_1,x10_1,rfl,HA,HO_5,HB⟩:=hrel
  cases gk with
  | zero => exact absurd HA.out (by simp [impl_Label_71.l0])
  | succ k1 =>
   have H:=HA.out
   clear HA
   simp only [impl_Label_71.l0] at H
   by_cases c4 : x10_1 < (l0.length : Int)
   ·rw [if_pos c4] at H
    have c4b0 : decide (x10_1 < (l0.length : Int)) = true:=decide_eq_true c4
    by_cases c5 : 0 ≤ x10_1
    ·rw [if_pos c5] at H
     have c5b0 : decide (0 ≤ x10_1) = true:=decide_eq_true c5
     obtain ⟨b,hb0,H⟩:=Option.bind_eq_some_iff.mp H
     have HP0:=am_ hb0
     clear hb0
     obtain ⟨ad,e_,hx_0,hx_1⟩:=at_T53 HR0.out x10_1 c5 c4
     cases e_
     replace hx_0:=kp_ HB hx_0
     replace hx_1:=kp_ HB hx_1
     have p_:=eq_true c5
     have q_:=eq_true c4
     clear c4 c5
     have HC7:=am_ H
     clear H
     go_upto_region 5 with (first|((with_reducible refine gate_dst (N:=7) rfl ?_);refine bx_ 7 #[.string (⟨#[]⟩ : ByteArray),.string (⟨#[]⟩ : ByteArray)] 53 ?_;intro gb hg w8 hbox hb;have BK:=am_ (hbox);have GE:=am_ (gs_ hg : w.heap.size ≤ gb);replace HO_5:=am_ (Kd.R_below (Kd.R_elderB (ro_ HO_5) gb (Nat.le_of_eq hg.symm)) hb);replace HB:=am_ (below_step bl_ hb);clear hb hbox hg;have hcz1_0:=bc2_0 BK;have hfz1_0:=bf_ BK 0;have hcz1_1:=bc2_1 BK;have hfz1_1:=bf_ BK 1))
     have n0_ : Aside0 (Kd.R k53 53 (((w8).setCell ⟨gb,0,none⟩ (.string ((rd_T53 l0 x10_1).f0))).setCell ⟨gb,1,none⟩ (.string ((rd_T53 l0 x10_1).f1))) w.heap.size (fun k_ => k_ ≠ gb) u5 x5_1):=⟨Kd.R_mono (Kd.R_far (p:=⟨gb,1,none⟩) (Kd.R_far (p:=⟨gb,0,none⟩) (Kd.R_mono HO_5.out (fun k_ hk => (⟨hk,hk.2⟩ : _ ∧ k_ ≠ gb))) (fun _ hk => hk.2) (.string ((rd_T53 l0 x10_1).f0))) (fun _ hk => hk.2) (.string ((rd_T53 l0 x10_1).f1))) (fun _ hk => hk.1.2)⟩
     have n1_ : Aside0 ((((w8).setCell ⟨gb,0,none⟩ (.string ((rd_T53 l0 x10_1).f0))).setCell ⟨gb,1,none⟩ (.string ((rd_T53 l0 x10_1).f1))).heap[gb]? = some (.cells #[.string ((rd_T53 l0 x10_1).f0),.string ((rd_T53 l0 x10_1).f1)] 53 (0,0))):=⟨by refine blk_put (cs:=#[.string ((rd_T53 l0 x10_1).f0),.string (⟨#[]⟩ : ByteArray)]) ?_ 1 _ rfl;refine blk_put (cs:=#[.string (⟨#[]⟩ : ByteArray),.string (⟨#[]⟩ : ByteArray)]) ?_ 0 _ rfl;exact BK.out⟩
     have n2_ : Aside0 (Below w.heap.size w (((w8).setCell ⟨gb,0,none⟩ (.string ((rd_T53 l0 x10_1).f0))).setCell ⟨gb,1,none⟩ (.string ((rd_T53 l0 x10_1).f1)))):=⟨bg_⟩
     clear HO_5 BK HB
     generalize ((w8).setCell ⟨gb,0,none⟩ (.string ((rd_T53 l0 x10_1).f0))).setCell ⟨gb,1,none⟩ (.string ((rd_T53 l0 x10_1).f1)) = w9 at n0_ n1_ n2_ ⊢
     have HO_5:=n0_
     have BK:=n1_
     have HB:=n2_
     clear n0_ n1_ n2_
     have hcz2_0:=bc2_0 BK;have hfz2_0:=bf_ BK 0;have hcz2_1:=bc2_1 BK;have hfz2_1:=bf_ BK 1
     cases b with
     | true =>
      have H:=HC7.out
      rw [if_pos rfl] at H
      by_cases c13 : x5_1.length < 4398046511104
      ·rw [if_pos c13] at H
       have LM:=am_ c13
       clear c13
       obtain ⟨y,hy⟩ : ∃ y_ : List (S53),y_ = x5_1 ++ [(⟨(rd_T53 l0 x10_1).f0,(rd_T53 l0 x10_1).f1⟩ : S53)]:=⟨_,rfl⟩
       rw [← hy] at H
       have Ny:=am_ hy
       clear hy
       have H':=am_ H
       clear H
       go_wp2_with (first|(with_reducible refine Calls.mono (hP'.out w9 (⟨(rd_T53 l0 x10_1).f0,(rd_T53 l0 x10_1).f1⟩ : S53) true HB.out HP0.out) ?_;rintro e w10 ⟨rfl,hb⟩;have n0_:=am_ (Kd.R_below HO_5.out hb);have n1_:=am_ (blk_below BK.out hb);have n2_:=am_ (below_step HB.out hb);clear HO_5 BK HB;have HO_5:=n0_;have BK:=n1_;have HB:=n2_;clear n0_ n1_ n2_ hb;have hcz3_0:=bc2_0 BK;have hfz3_0:=bf_ BK 0;have hcz3_1:=bc2_1 BK;have hfz3_1:=bf_ BK 1)|((with_reducible refine gate_builtin (b:=.append) (xs:=#[.tmp 17,.tmp 19]) rfl ?_);at_builtin;refine Kd.R_append k53 (w0:=w) w.heap.size rfl (.tmp 17) (.tmp 19) 28 53 (.agg #[(.string ⟨#[]⟩),(.string ⟨#[]⟩)]) 32 rfl Tryz.underlying28 info53 rfl (by decide) (by omega) u5 x5_1 (⟨(rd_T53 l0 x10_1).f0,(rd_T53 l0 x10_1).f1⟩ : S53) [.string ((rd_T53 l0 x10_1).f0),.string ((rd_T53 l0 x10_1).f1)] (fun k_ => k_ ≠ gb) (fun _ => False) rfl rfl ?aP (fun _ hk => hk.elim) ?aF ?aO ?aB ?aS ?aL ?_;(case aP => exact k53_mkM _ _ _ (⟨(rd_T53 l0 x10_1).f0,(rd_T53 l0 x10_1).f1⟩ : S53));(case aB => exact bg_);(case aF => exact (fun k_ hk => Kd.freshB (g:=gb) (o:=.cells #[.string ((rd_T53 l0 x10_1).f0),.string ((rd_T53 l0 x10_1).f1)] 53 (0,0)) (vk_ BK) k_ hk));(case aO => exact (ro_ HO_5));(case aS => exact (below_size bg_));(case aL => have:=LM.out;omega);intro v20 w12 ho hb hg hat;rw [← Ny.out] at ho;have n1_:=am_ (hb);have n2_:=am_ (ho);clear HB;clear HO_5;have HB:=n1_;have HO_5:=n2_;clear n1_ n2_;clear ho hb hg hat))
       go_roundg k1
       case measure => omega
       case rel => exact ⟨y,(wrap64 (x10_1 + 1)),rs_,H',⟨by (with_reducible repeat (first|apply Kd.R_alloc|apply Kd.R_drewN|apply Kd.R_drew));exact Kd.R_mono HO_5.out (fun _ hk => trivial)⟩,⟨bg_⟩⟩
      ·rw [if_neg c13] at H
       exact absurd H (by simp)
     | false =>
      have H' : Aside0 (impl_Label_71.l0 P l0 k1 x5_1 (wrap64 (x10_1 + 1)) = some r):=⟨by have H:=HC7.out;rw [if_neg (show ¬ (false = true) by decide)] at H;exact H⟩
      go_wp2_with (first|(with_reducible refine Calls.mono (hP'.out w9 (⟨(rd_T53 l0 x10_1).f0,(rd_T53 l0 x10_1).f1⟩ : S53) false HB.out HP0.out) ?_;rintro e w10 ⟨rfl,hb⟩;have n0_:=am_ (Kd.R_below HO_5.out hb);have n2_:=am_ (below_step HB.out hb);clear HO_5 BK HB;have HO_5:=n0_;have HB:=n2_;clear n0_ n2_ hb))
      go_roundg k1
      case measure => omega
      case rel => exact ⟨x5_1,(wrap64 (x10_1 + 1)),rs_,H',⟨by (with_reducible repeat (first|apply Kd.R_alloc|apply Kd.R_drewN|apply Kd.R_drew));exact Kd.R_mono HO_5.out (fun _ hk => trivial)⟩,⟨bl_⟩⟩
    ·rw [if_neg c5] at H
     exact absurd H (by simp)
   ·rw [if_neg c4] at H
    have c4b0 : decide (x10_1 < (l0.length : Int)) = false:=decide_eq_false c4
    clear c4
    obtain rfl:=Option.some.inj H
    go_wp2
    go_ret
    exact ⟨_,rf_,HO_5.out,bl_⟩
def impl_PatternFits.f (k : Nat) (a0 : ByteArray) (a1 : ByteArray) : Option (Bool):=(impl_PatternParts.f k a0 a1).bind fun bt1001 => (some bt1001.2)
theorem impl_PatternFits.mono : ∀ a0 a1 k,LeO (impl_PatternFits.f k a0 a1) (impl_PatternFits.f (k + 1) a0 a1):=by
 intro a0 a1 k
 unfold impl_PatternFits.f
 repeat' with_reducible first|apply impl_PatternParts.mono|apply LeO.refl|apply LeO.none|apply LeO.ite|refine LeO.bind ?_ (fun _ => ?_)
theorem impl_PatternFits.calls (k : Nat) (a0 : ByteArray) (a1 : ByteArray) (r : Bool) (w : World) (h : impl_PatternFits.f k a0 a1 = some r) :
  Calls Tryz.prog 73 #[.string a0,.string a1] w fun e w' => e = .returned (.bool r) ∧ Below w.heap.size w w':=by
 have HB:=am_ (Below.refl w.heap.size w);have H:=h;clear h;unfold impl_PatternFits.f at H;replace H:=bs_ H;obtain ⟨⟨t1001,t1002⟩,A3,H⟩:=H;replace H : (some t1002) = some r:=H;obtain rfl:=si_ H;go_enter Tryz.func73,Tryz.ntmps73;go_wp2_with (first|((with_reducible refine gate_callee (f:=65) rfl ?_);refine gl_ 10 Tryz.func65 #[.string a0,.string a1] ?_;(with_reducible refine (impl_PatternParts.calls k a0 a1 t1001 t1002 _ A3.out).mono ?_);rintro e w4 ⟨v1003,rfl,ho0,hb⟩;refine ⟨_,rfl,?_⟩;have HO1004:=am_ (Kd.R_lower ho0 (below_size bl_));replace HB:=am_ (below_step bl_ hb);(try clear hb);(try clear ho0)));go_ret;exact ⟨rf_,bl_⟩
theorem impl_relabel_1.calls (k : Nat) (x : S53) (gn : Nat) (p : ByteArray) (b : Bool) (w : World) (hcell : w.cell? ⟨gn,3,none⟩ = some (.string p)) (h : impl_PatternFits.f k p x.f0 = some b) :
    Calls Tryz.prog 72 #[.agg #[.string (x.f0),.string (x.f1)],.pointer (some ⟨gn,0,none⟩)] w fun e w' => e = .returned (.bool b) ∧ Below w.heap.size w w':=by
  have hu:=Tryz.underlying53
  have HB:=am_ (Below.refl w.heap.size w)
  have HX:=am_ hcell
  clear hcell
  go_enter Tryz.func72,Tryz.ntmps72
  go_wp2_with (first|((with_reducible refine gate_dst (N:=2) rfl ?_);refine box_event ?hg (N:=2) ?hd (cs:=#[.string (x.f0),.string (x.f1)]) (t:=53) ?hr ?_;(case hd => rfl);(case hg => rfl);(case hr => first|(go_simp;done)|(go_simp;rfl));intro gb hg w8 hbox hb;have n1_:=am_ (below_step bl_ hb);have BK:=am_ hbox;clear HB;have HB:=n1_;clear n1_ hb hbox hg;have hcx:=kp_ HB HX.out;have hcz1_0:=bc2_0 BK;have hcz1_1:=bc2_1 BK;have hfz1_0:=bf_ BK 0;have hfz1_1:=bf_ BK 1)|(go_at_call 73;refine (impl_PatternFits.calls k p x.f0 _ _ h).mono ?_;rintro e w9 ⟨rfl,hb⟩;replace HB:=am_ (below_step bl_ hb);clear hb))
  go_ret
  exact ⟨rf_,bl_⟩
theorem impl_relabel_2.calls (k : Nat) (x : S53) (gn : Nat) (p : ByteArray) (b : Bool) (w : World) (hcell : w.cell? ⟨gn,3,none⟩ = some (.string p)) (h : (impl_PatternFits.f k p x.f0).bind (fun b_ => some (!b_)) = some b) :
    Calls Tryz.prog 74 #[.agg #[.string (x.f0),.string (x.f1)],.pointer (some ⟨gn,0,none⟩)] w fun e w' => e = .returned (.bool b) ∧ Below w.heap.size w w':=by
  have hu:=Tryz.underlying53
  have HB:=am_ (Below.refl w.heap.size w)
  have HX:=am_ hcell
  clear hcell
  obtain ⟨b',hb',h⟩:=Option.bind_eq_some_iff.mp h
  obtain rfl:=Option.some.inj h
  go_enter Tryz.func74,Tryz.ntmps74
  go_wp2_with (first|((with_reducible refine gate_dst (N:=2) rfl ?_);refine box_event ?hg (N:=2) ?hd (cs:=#[.string (x.f0),.string (x.f1)]) (t:=53) ?hr ?_;(case hd => rfl);(case hg => rfl);(case hr => first|(go_simp;done)|(go_simp;rfl));intro gb hg w8 hbox hb;have n1_:=am_ (below_step bl_ hb);have BK:=am_ hbox;clear HB;have HB:=n1_;clear n1_ hb hbox hg;have hcx:=kp_ HB HX.out;have hcz1_0:=bc2_0 BK;have hcz1_1:=bc2_1 BK;have hfz1_0:=bf_ BK 0;have hfz1_1:=bf_ BK 1)|(go_at_call 73;refine (impl_PatternFits.calls k p x.f0 _ _ hb').mono ?_;rintro e w9 ⟨rfl,hb⟩;replace HB:=am_ (below_step bl_ hb);clear hb))
  go_ret
  exact ⟨rf_,bl_⟩
mutual
def impl_relabel.l0 : Nat → List (S53) → List ByteArray → List ByteArray → Int → Int → Int → List ByteArray → ByteArray → ByteArray → ByteArray → ByteArray → Int → Option ((List (S53)) × Bool)
 | 0,_,_,_,_,_,_,_,_,_,_,_,_ => none
 | k + 1,x0,x6,x18,x19,x20,x1002000,x1002001,x1002002,x1002003,x1002004,x1002005,x1002006 => if x20 < x19 then (if 0 ≤ x20 then (if x20 < (x18.length : Int) then ((impl_valueOf.f k x0 (rdOf ByteArray.empty x18 x20)).bind fun t1003 => (if x6.length < 8796093022208 then (impl_relabel.l0 k x0 (x6 ++ [t1003]) x18 x19 (wrap64 (x20 + 1)) x1002000 x1002001 x1002002 x1002003 x1002004 x1002005 x1002006) else (none))) else (none)) else (none)) else ((strings_Join.f x6 x1002002).bind fun t1007 => ((impl_Label_40.f x0).bind fun t1008 => ((impl_PatternParts.f k x1002003 t1007).bind fun bt1011 => (if bt1011.2 = true then ((impl_printed.f k t1007 100).bind fun t1015 => (impl_relabel.j1 k x0 t1007 t1008 bt1011.1 t1015 x1002000 x1002001 x1002002 x1002003 x1002004 x1002005 x1002006)) else (impl_relabel.j1 k x0 t1007 t1008 bt1011.1 false x1002000 x1002001 x1002002 x1002003 x1002004 x1002005 x1002006)))))
def impl_relabel.j1 : Nat → List (S53) → ByteArray → List (S53) → List ByteArray → Bool → Int → List ByteArray → ByteArray → ByteArray → ByteArray → ByteArray → Int → Option ((List (S53)) × Bool)
 | 0,_,_,_,_,_,_,_,_,_,_,_,_ => none
 | k + 1,x0,x9,x10,x11,x12,x1002000,x1002001,x1002002,x1002003,x1002004,x1002005,x1002006 => if x1002000 = 1 then (some (x10,x12)) else (if x1002000 = 2 then (some (x10,!x12)) else (if x1002000 = 3 then (if x12 = true then ((impl_FillValue.f k x1002005 x11).bind fun t1016 => ((impl_with.f k x0 x1002004 t1016).bind fun t1017 => ((impl_GoodLabels.f k t1017).bind fun t1020 => (some (t1017,t1020))))) else ((impl_GoodLabels.f k x10).bind fun t1021 => (some (x10,t1021)))) else (if x1002000 = 4 then (if x9.size ≤ 140737488355328 then ((impl_Mix.f k (bytesOf x9)).bind fun t1022 => (if ¬ x1002006 = 0 then ((impl_digitsOf.f (Int.tmod t1022 x1002006)).bind fun t1023 => ((impl_with.f k x0 x1002004 t1023).bind fun t1024 => ((impl_GoodLabels.f k t1024).bind fun t1027 => (some (t1024,t1027))))) else (none))) else (none)) else (if x1002000 = 8 then ((impl_lower.f k x9).bind fun t1028 => ((impl_with.f k x0 x1002004 t1028).bind fun t1029 => ((impl_GoodLabels.f k t1029).bind fun t1032 => (some (t1029,t1032))))) else (if x1002000 = 5 then (impl_relabel.l1 k x10 x0 (x0.length : Int) 0 x1002000 x1002001 x1002002 x1002003 x1002004 x1002005 x1002006) else (if x1002000 = 6 then ((impl_Label_71.f k (fun x => impl_PatternFits.f k x1002003 x.f0) x0).bind fun t1044 => ((impl_GoodLabels.f k t1044).bind fun t1047 => (some (t1044,t1047)))) else (if x1002000 = 7 then ((impl_Label_71.f k (fun x => (impl_PatternFits.f k x1002003 x.f0).bind fun b_ => some (!b_)) x0).bind fun t1048 => ((impl_GoodLabels.f k t1048).bind fun t1051 => (some (t1048,t1051)))) else ((impl_GoodLabels.f k x10).bind fun t1052 => (some (x10,t1052))))))))))
def impl_relabel.l1 : Nat → List (S53) → List (S53) → Int → Int → Int → List ByteArray → ByteArray → ByteArray → ByteArray → ByteArray → Int → Option ((List (S53)) × Bool)
 | 0,_,_,_,_,_,_,_,_,_,_,_ => none
 | k + 1,x10,x94,x95,x96,x1002000,x1002001,x1002002,x1002003,x1002004,x1002005,x1002006 => if x96 < x95 then (if 0 ≤ x96 then (if x96 < (x94.length : Int) then ((impl_PatternParts.f k x1002003 ((rd_T53 x94 x96).f0)).bind fun bt1036 => (if bt1036.2 = true then ((impl_FillValue.f k x1002005 bt1036.1).bind fun t1040 => ((impl_with.f k x10 t1040 ((rd_T53 x94 x96).f1)).bind fun t1041 => (impl_relabel.l1 k t1041 x94 x95 (wrap64 (x96 + 1)) x1002000 x1002001 x1002002 x1002003 x1002004 x1002005 x1002006))) else (impl_relabel.l1 k x10 x94 x95 (wrap64 (x96 + 1)) x1002000 x1002001 x1002002 x1002003 x1002004 x1002005 x1002006))) else (none)) else (none)) else ((impl_GoodLabels.f k x10).bind fun t1033 => (some (x10,t1033)))
end
def impl_relabel.f (k : Nat) (l0 : List (S53)) (a1_0 : Int) (l1_1 : List ByteArray) (a1_2 : ByteArray) (a1_3 : ByteArray) (a1_4 : ByteArray) (a1_5 : ByteArray) (a1_6 : Int) : Option ((List (S53)) × Bool):=impl_relabel.l0 k l0 ([] : List ByteArray) l1_1 (l1_1.length : Int) 0 a1_0 l1_1 a1_2 a1_3 a1_4 a1_5 a1_6
theorem impl_relabel.mono_l : ∀ k,(∀ y0 y1 y2 y3 y4 y5 y6 y7 y8 y9 y10 y11,LeO (impl_relabel.l0 k y0 y1 y2 y3 y4 y5 y6 y7 y8 y9 y10 y11) (impl_relabel.l0 (k + 1) y0 y1 y2 y3 y4 y5 y6 y7 y8 y9 y10 y11)) ∧ (∀ y0 y1 y2 y3 y4 y5 y6 y7 y8 y9 y10 y11,LeO (impl_relabel.j1 k y0 y1 y2 y3 y4 y5 y6 y7 y8 y9 y10 y11) (impl_relabel.j1 (k + 1) y0 y1 y2 y3 y4 y5 y6 y7 y8 y9 y10 y11)) ∧ (∀ y0 y1 y2 y3 y4 y5 y6 y7 y8 y9 y10,LeO (impl_relabel.l1 k y0 y1 y2 y3 y4 y5 y6 y7 y8 y9 y10) (impl_relabel.l1 (k + 1) y0 y1 y2 y3 y4 y5 y6 y7 y8 y9 y10))
 | 0 => ⟨fun _ _ _ _ _ _ _ _ _ _ _ _ r h => by simp [impl_relabel.l0] at h,fun _ _ _ _ _ _ _ _ _ _ _ _ r h => by simp [impl_relabel.j1] at h,fun _ _ _ _ _ _ _ _ _ _ _ r h => by simp [impl_relabel.l1] at h⟩
 | k + 1 => by
  obtain ⟨ih0,ih1,ih2⟩:=impl_relabel.mono_l k
  refine ⟨?_,?_,?_⟩
  ·intro y0 y1 y2 y3 y4 y5 y6 y7 y8 y9 y10 y11
   unfold impl_relabel.l0
   repeat' with_reducible first|apply impl_Mix.mono|apply impl_PatternFits.mono|refine impl_Label_71.mono _ _ (fun x => ?_) _ _|apply ih0|apply ih1|apply ih2|apply impl_FillValue.mono|apply impl_GoodLabels.mono|apply impl_PatternParts.mono|apply impl_lower.mono|apply impl_printed.mono|apply impl_valueOf.mono|apply impl_with.mono|apply LeO.refl|apply LeO.none|apply LeO.ite|refine LeO.bind ?_ (fun _ => ?_)
  ·intro y0 y1 y2 y3 y4 y5 y6 y7 y8 y9 y10 y11
   unfold impl_relabel.j1
   repeat' with_reducible first|apply impl_Mix.mono|apply impl_PatternFits.mono|refine impl_Label_71.mono _ _ (fun x => ?_) _ _|apply ih0|apply ih1|apply ih2|apply impl_FillValue.mono|apply impl_GoodLabels.mono|apply impl_PatternParts.mono|apply impl_lower.mono|apply impl_printed.mono|apply impl_valueOf.mono|apply impl_with.mono|apply LeO.refl|apply LeO.none|apply LeO.ite|refine LeO.bind ?_ (fun _ => ?_)
  ·intro y0 y1 y2 y3 y4 y5 y6 y7 y8 y9 y10
   unfold impl_relabel.l1
   repeat' with_reducible first|apply impl_Mix.mono|apply impl_PatternFits.mono|refine impl_Label_71.mono _ _ (fun x => ?_) _ _|apply ih0|apply ih1|apply ih2|apply impl_FillValue.mono|apply impl_GoodLabels.mono|apply impl_PatternParts.mono|apply impl_lower.mono|apply impl_printed.mono|apply impl_valueOf.mono|apply impl_with.mono|apply LeO.refl|apply LeO.none|apply LeO.ite|refine LeO.bind ?_ (fun _ => ?_)
theorem impl_relabel.mono : ∀ a0 a1 a2 a3 a4 a5 a6 a7 k,LeO (impl_relabel.f k a0 a1 a2 a3 a4 a5 a6 a7) (impl_relabel.f (k + 1) a0 a1 a2 a3 a4 a5 a6 a7):=by
 intro a0 a1 a2 a3 a4 a5 a6 a7 k
 obtain ⟨ih0,ih1,ih2⟩:=impl_relabel.mono_l k
 unfold impl_relabel.f
 repeat' with_reducible first|apply impl_Mix.mono|apply impl_PatternFits.mono|refine impl_Label_71.mono _ _ (fun x => ?_) _ _|apply ih0|apply ih1|apply ih2|apply impl_FillValue.mono|apply impl_GoodLabels.mono|apply impl_PatternParts.mono|apply impl_lower.mono|apply impl_printed.mono|apply impl_valueOf.mono|apply impl_with.mono|apply LeO.refl|apply LeO.none|apply LeO.ite|refine LeO.bind ?_ (fun _ => ?_)
def impl_relabel.T18 : Bool × List (List Nat × List Nat):=(true,[([],[]),([],[]),([1],[1]),([],[]),([3],[3]),([],[]),([4,5],[4,5]),([0,2,6,6],[0,2,6]),([7,7,0,1,2,3,4,5,6,7],[7])])
def impl_relabel.B18 : List Nat:=[0,0,2,0,8,0,56,127,255]
theorem impl_relabel.tab18 : rtab .any (opsOf Tryz.f31 18) = impl_relabel.T18:=by kernel_rfl
theorem impl_relabel.bits18 : waitsOk impl_relabel.T18.2 impl_relabel.B18 = true:=by kernel_rfl
def impl_relabel.T20 : Bool × List (List Nat × List Nat):=(true,[([],[]),([],[]),([1],[1]),([],[]),([3],[3]),([4],[4]),([],[]),([6],[6]),([5,7],[5,7]),([8,5],[8]),([0,2,9,9],[0,2,9]),([10,10,0,1,2,3,4,5,6,7,8,9,10],[10])])
def impl_relabel.B20 : List Nat:=[0,0,2,0,8,24,0,64,248,504,1023,2047]
theorem impl_relabel.tab20 : rtab .any (opsOf Tryz.f31 20) = impl_relabel.T20:=by kernel_rfl
theorem impl_relabel.bits20 : waitsOk impl_relabel.T20.2 impl_relabel.B20 = true:=by kernel_rfl
def impl_relabel.T29 : Bool × List (List Nat × List Nat):=(true,[([],[]),([],[]),([1],[1]),([],[]),([2,3],[2,3]),([],[]),([5],[5]),([0,4,6,4],[0,4,6]),([7,7,0,1,2,3,4,5,6,7],[0,7])])
def impl_relabel.B29 : List Nat:=[0,0,2,0,14,0,32,127,255]
theorem impl_relabel.tab29 : rtab .any (opsOf Tryz.f31 29) = impl_relabel.T29:=by kernel_rfl
theorem impl_relabel.bits29 : waitsOk impl_relabel.T29.2 impl_relabel.B29 = true:=by kernel_rfl
theorem impl_relabel.calls (k : Nat) (A0 : Option Addr) (c0 : Nat) (l0 : List (S53)) (a1_0 : Int) (A1_1 : Option Addr) (c1_1 : Nat) (l1_1 : List ByteArray) (a1_2 : ByteArray) (a1_3 : ByteArray) (a1_4 : ByteArray) (a1_5 : ByteArray) (a1_6 : Int) (r1 : List (S53)) (r2 : Bool) (w : World) (hr0 : Kd.C k53 w A0 l0.length l0) (hc0 : l0.length ≤ c0) (hr1_1 : Kd.C Kd.string w A1_1 l1_1.length l1_1) (hc1_1 : l1_1.length ≤ c1_1) (h : impl_relabel.f k l0 a1_0 l1_1 a1_2 a1_3 a1_4 a1_5 a1_6 = some (r1,r2)) (hT1 : Tg1 w:=by exact Tg1.below hT1 bg_) :
  Calls Tryz.prog 31 #[.slice A0 l0.length c0,.agg #[.int .i64 a1_0,.slice A1_1 l1_1.length c1_1,.string a1_2,.string a1_3,.string a1_4,.string a1_5,.int .i64 a1_6]] w fun e w' => ∃ v0_ : Value,e = .returned (.tuple #[v0_,.bool r2]) ∧ Kd.R k53 53 w' w.heap.size (fun _ => True) v0_ r1 ∧ Below w.heap.size w w':=by
 have hu32:=Tryz.underlying32;have hu53:=Tryz.underlying53;have HR0:=am_ hr0;have HC0:=am_ hc0;clear hr0 hc0;have HR1_1:=am_ hr1_1;have HC1_1:=am_ hc1_1;clear hr1_1 hc1_1;have HB:=am_ (Below.refl w.heap.size w);have H : (impl_relabel.l0 k l0 ([] : List ByteArray) l1_1 (l1_1.length : Int) 0 a1_0 l1_1 a1_2 a1_3 a1_4 a1_5 a1_6) = some (r1,r2):=h;clear h;have H':=am_ H;clear H;go_enter Tryz.func31,Tryz.ntmps31;go_wp2_with (first|((with_reducible refine gate_dst (N:=3) rfl ?_);refine bx_ 3 #[.int .i64 a1_0,.slice A1_1 l1_1.length c1_1,.string a1_2,.string a1_3,.string a1_4,.string a1_5,.int .i64 a1_6] 32 ?_;intro gb1001 hg w3 hbox hb;have BK1001:=am_ (hbox);have GW1001:=am_ (gs_ hg : w.heap.size ≤ gb1001);replace HB:=am_ (below_step bl_ hb);have GE1001:=GW1001;clear hb hbox hg;have hz4:=bk7_ BK1001))
 go_loopg [6,20] k (fun kq v6 v20 w' => ∃ (x6_1 : List ByteArray) (x20_1 : Int),v20 = .int .i64 x20_1 ∧ Aside0 (impl_relabel.l0 kq l0 x6_1 l1_1 (l1_1.length : Int) x20_1 a1_0 l1_1 a1_2 a1_3 a1_4 a1_5 a1_6 = some (r1,r2)) ∧ Aside0 (kq ≤ k) ∧ Aside0 (Kd.R Kd.string 9 w' w.heap.size (fun _ => True) v6 x6_1) ∧ Aside0 (w'.heap[gb1001]? = some (.cells #[.int .i64 a1_0,(.slice A1_1 l1_1.length c1_1),.string a1_2,.string a1_3,.string a1_4,.string a1_5,.int .i64 a1_6] 32 (0,0))) ∧ Aside0 (Below w.heap.size w w'))
 case atStart => exact ⟨(([] : List ByteArray)),(0),rs_,H',⟨Nat.le_refl _⟩,⟨ni_⟩,⟨vk_ BK1001⟩,⟨bg_⟩⟩
 case round =>
  clear H';(try clear hz4);obtain ⟨x6_1,x20_1,rfl,HA,HK1,HO_6,BK1001,HB⟩:=hrel
  cases gk with
  | zero => exact absurd HA.out (by simp [impl_relabel.l0])
  | succ k1 =>
   have H:=HA.out;clear HA;simp only [impl_relabel.l0] at H
   by_cases c5 : x20_1 < (l1_1.length : Int)
   ·rw [if_pos c5] at H;have c5b0:=decide_eq_true c5;clear c5;replace H:=is_ H;obtain ⟨c6,H⟩:=H;have c6b0:=decide_eq_true c6;clear c6;replace H:=is_ H;obtain ⟨c7,H⟩:=H;have c7b0:=decide_eq_true c7;clear c7;replace H:=Option.bind_eq_some_iff.mp H;obtain ⟨t1003,A80,H⟩:=H;replace H : (if x6_1.length < 8796093022208 then (impl_relabel.l0 k1 l0 (x6_1 ++ [t1003]) l1_1 (l1_1.length : Int) (wrap64 (x20_1 + 1)) a1_0 l1_1 a1_2 a1_3 a1_4 a1_5 a1_6) else (none)) = some (r1,r2):=H;have A8:=am_ A80;clear A80;replace H:=is_ H;obtain ⟨c9,H⟩:=H;have LMc9:=am_ c9;clear c9;obtain ⟨y1004,hy1004⟩ : ∃ y_ : List ByteArray,y_ = (x6_1 ++ [t1003]):=⟨_,rfl⟩;replace H : (impl_relabel.l0 k1 l0 y1004 l1_1 (l1_1.length : Int) (wrap64 (x20_1 + 1)) a1_0 l1_1 a1_2 a1_3 a1_4 a1_5 a1_6) = some (r1,r2):=by first|(rw [hy1004];with_reducible exact H)|(have H2_:=(Option.bind_some _ _).symm.trans H;rw [hy1004];with_reducible exact H2_)|(have H2_:=(Option.bind_some _ _).symm.trans H;with_reducible exact H2_)|with_reducible exact H|(rw [hy1004];exact H)|exact H
    have Ny1004:=am_ hy1004;clear hy1004;have H':=am_ H;clear H;have p1002 : 0 ≤ (x20_1 : Int):=od_;have q1002 : x20_1 < (l1_1.length : Int):=od_;obtain ⟨ad1002,e1002,hx1002_0⟩:=Kd.at_string HR1_1.out x20_1 p1002 q1002
    cases e1002
    replace hx1002_0:=kp_ HB hx1002_0;replace p1002:=eq_true p1002;replace q1002:=eq_true q1002;go_wp2_with (first|((with_reducible refine gate_callee (f:=63) rfl ?_);refine gl_ 27 Tryz.func63 #[.slice A0 l0.length c0,.string (rdOf ByteArray.empty l1_1 x20_1)] ?_;(with_reducible refine (impl_valueOf.calls k1 _ _ l0 (rdOf ByteArray.empty l1_1 x20_1) t1003 _ ?side1 ?side2 A8.out).mono ?_);(case side1 => exact cc_ (Kd.C_below HR0.out HB.out));(case side2 => exact HC0.out);rintro e w10 ⟨rfl,hb⟩;refine ⟨_,rfl,?_⟩;replace HO_6:=am_ (Kd.R_below (ro_ HO_6) hb);replace BK1001:=vb_ BK1001 hb;replace HB:=am_ (below_step bg_ hb);(try clear hb))|((with_reducible refine gate_builtin (b:=.append) (xs:=#[.tmp 24,.tmp 28]) rfl ?_);at_builtin;refine Kd.R_append Kd.string (w0:=w) w.heap.size rfl (.tmp 24) (.tmp 28) 23 9 (.string ⟨#[]⟩) 16 rfl Tryz.underlying23 info9 rfl (by decide) (by omega) u6 x6_1 t1003 [.string t1003] (fun _ => True) (fun _ => False) rfl rfl ?aP (fun _ hk => hk.elim) ?aF ?aO ?aB ?aS ?aL ?_;(case aP => exact rfl);(case aB => exact bg_);(case aF => exact (fun _ _ => trivial));(case aO => exact (ro_ HO_6));(case aS => exact (below_size bg_));(case aL => have:=LMc9.out;omega);intro v1005 w11 ho hb hg hat;rw [← Ny1004.out] at ho;have n0_:=am_ (blk_grown (g:=gb1001) (o:=.cells #[.int .i64 a1_0,.slice (some ad1002) l1_1.length c1_1,.string a1_2,.string a1_3,.string a1_4,.string a1_5,.int .i64 a1_6] 32 (0,0)) (vk_ BK1001) hg (Kd.R_ne HO_6.out BK1001.out (by decide)));have n1_:=am_ (hb);have n2_:=am_ (ho);clear BK1001;clear HB;clear HO_6;have BK1001:=n0_;have HB:=n1_;have HO1006:=n2_;clear n0_ n1_ n2_;clear ho hb hg hat));go_roundg k1
    case measure => have:=HK1.out;omega
    case rel => exact ⟨(y1004),(wrap64 (x20_1 + 1)),rs_,H',⟨by have:=HK1.out;omega⟩,⟨ro_ HO1006⟩,⟨vk_ BK1001⟩,⟨bg_⟩⟩
   ·rw [if_neg c5] at H;have c5b0:=decide_eq_false c5;clear c5;replace H:=Option.bind_eq_some_iff.mp H;obtain ⟨t1007,A120,H⟩:=H;replace H : ((impl_Label_40.f l0).bind fun t1008 => ((impl_PatternParts.f k1 a1_3 t1007).bind fun bt1011 => (if bt1011.2 = true then ((impl_printed.f k1 t1007 100).bind fun t1015 => (impl_relabel.j1 k1 l0 t1007 t1008 bt1011.1 t1015 a1_0 l1_1 a1_2 a1_3 a1_4 a1_5 a1_6)) else (impl_relabel.j1 k1 l0 t1007 t1008 bt1011.1 false a1_0 l1_1 a1_2 a1_3 a1_4 a1_5 a1_6)))) = some (r1,r2):=H;have A12:=am_ A120;clear A120;replace H:=Option.bind_eq_some_iff.mp H;obtain ⟨t1008,A130,H⟩:=H;replace H : ((impl_PatternParts.f k1 a1_3 t1007).bind fun bt1011 => (if bt1011.2 = true then ((impl_printed.f k1 t1007 100).bind fun t1015 => (impl_relabel.j1 k1 l0 t1007 t1008 bt1011.1 t1015 a1_0 l1_1 a1_2 a1_3 a1_4 a1_5 a1_6)) else (impl_relabel.j1 k1 l0 t1007 t1008 bt1011.1 false a1_0 l1_1 a1_2 a1_3 a1_4 a1_5 a1_6))) = some (r1,r2):=H;have A13:=am_ A130;clear A130;replace H:=Option.bind_eq_some_iff.mp H;obtain ⟨⟨t1011,t1012⟩,A140,H⟩:=H;replace H : (if t1012 = true then ((impl_printed.f k1 t1007 100).bind fun t1015 => (impl_relabel.j1 k1 l0 t1007 t1008 t1011 t1015 a1_0 l1_1 a1_2 a1_3 a1_4 a1_5 a1_6)) else (impl_relabel.j1 k1 l0 t1007 t1008 t1011 false a1_0 l1_1 a1_2 a1_3 a1_4 a1_5 a1_6)) = some (r1,r2):=H;have A14:=am_ A140;clear A140;have HC15:=am_ H;clear H;have hz16:=bk7_ BK1001;obtain ⟨Ao17,co17,eo17⟩:=Kd.R_slice HO_6.out;subst eo17;go_upto_region 10 with (first|((with_reducible refine gate_callee (f:=64) rfl ?_);refine gl_ 34 Tryz.func64 #[.slice Ao17 x6_1.length co17,.string a1_2] ?_;(with_reducible refine (strings_Join.calls _ _ x6_1 a1_2 t1007 _ ?side1 ?side2 A12.out).mono ?_);(case side1 => exact cc_ (Kd.R_reads' HO_6.out).2.2);(case side2 => exact (Kd.R_reads' HO_6.out).2.1);rintro e w18 ⟨rfl,hb⟩;refine ⟨_,rfl,?_⟩;replace HO_6:=am_ (Kd.R_below (ro_ HO_6) hb);replace BK1001:=vb_ BK1001 hb;replace HB:=am_ (below_step bg_ hb);(try clear hb))|((with_reducible refine gate_callee (f:=40) rfl ?_);refine gl_ 36 Tryz.func40 #[.slice A0 l0.length c0] ?_;(with_reducible refine (impl_Label_40.calls _ _ l0 t1008 _ ?side1 ?side2 A13.out).mono ?_);(case side1 => exact cc_ (Kd.C_below HR0.out HB.out));(case side2 => exact HC0.out);rintro e w19 ⟨v1009,rfl,ho0,hb⟩;refine ⟨_,rfl,?_⟩;have HO1010:=am_ (Kd.R_lower ho0 (below_size bg_));replace HO_6:=am_ (Kd.R_below (ro_ HO_6) hb);replace BK1001:=vb_ BK1001 hb;replace HB:=am_ (below_step bg_ hb);(try clear hb);(try clear ho0);have hz20:=bk7_ BK1001)|((with_reducible refine gate_callee (f:=65) rfl ?_);refine gl_ 41 Tryz.func65 #[.string a1_3,.string t1007] ?_;(with_reducible refine (impl_PatternParts.calls k1 a1_3 t1007 t1011 t1012 _ A14.out).mono ?_);rintro e w21 ⟨v1013,rfl,ho0,hb⟩;refine ⟨_,rfl,?_⟩;have HO1014:=am_ (Kd.R_lower (Kd.R_new' ho0 (Kd.R_lt (ro_ HO_6))) (below_size bg_));replace HO_6:=am_ (Kd.R_elder' (ro_ HO_6) (Kd.R_base ho0) hb);replace HO1010:=am_ (Kd.R_below (ro_ HO1010) hb);replace BK1001:=vb_ BK1001 hb;replace HB:=am_ (below_step bg_ hb);(try clear hb);(try clear ho0)));(try simp only [Act.put,List.setIfInBounds_toArray,List.set_cons_zero,List.set_cons_succ])
    go_cut [12] (fun v12 wc => ∃ (kq : Nat) (x12_14 : Bool),v12 = .bool x12_14 ∧ Aside0 (impl_relabel.j1 kq l0 t1007 t1008 t1011 x12_14 a1_0 l1_1 a1_2 a1_3 a1_4 a1_5 a1_6 = some (r1,r2)) ∧ Aside0 (kq ≤ k1) ∧ Aside0 (Kd.R k53 53 wc w.heap.size (fun _ => True) v1009 t1008) ∧ Aside0 (Kd.R Kd.string 9 wc w.heap.size (fun _ => True) v1013 t1011) ∧ Aside0 (wc.heap[gb1001]? = some (.cells #[.int .i64 a1_0,(.slice A1_1 l1_1.length c1_1),.string a1_2,.string a1_3,.string a1_4,.string a1_5,.int .i64 a1_6] 32 (0,0))) ∧ Aside0 (Below w.heap.size w wc))
    case first =>
     have H:=HC15.out;clear HC15
     by_cases c22 : t1012 = true
     ·subst c22;replace H:=it_ H;replace H:=Option.bind_eq_some_iff.mp H;obtain ⟨t1015,A230,H⟩:=H;replace H : (impl_relabel.j1 k1 l0 t1007 t1008 t1011 t1015 a1_0 l1_1 a1_2 a1_3 a1_4 a1_5 a1_6) = some (r1,r2):=H;have A23:=am_ A230;clear A230;have H':=am_ H;clear H;go_wp2_with (first|(go_at_call 59;(with_reducible refine (impl_printed.calls k1 t1007 100 t1015 _ A23.out).mono ?_);rintro e w' ⟨rfl,⟨nd,rfl⟩⟩));go_meet
      case rel => exact ⟨_,(t1015),rs_,H',⟨by have:=HK1.out;first|omega|exact Nat.le_refl _⟩,⟨ro_ HO1010⟩,⟨by (with_reducible repeat (first|apply Kd.R_alloc|apply Kd.R_drewN|apply Kd.R_drew));exact Kd.R_mono HO1014.out (fun _ hk => trivial)⟩,⟨vk_ BK1001⟩,⟨bg_⟩⟩
     ·replace c22:=Bool.eq_false_iff.mpr c22;subst c22;replace H:=if_ H;have H':=am_ H;clear H;go_wp2;go_meet
      case rel => exact ⟨_,(false),rs_,H',⟨by have:=HK1.out;first|omega|exact Nat.le_refl _⟩,⟨ro_ HO1010⟩,⟨by (with_reducible repeat (first|apply Kd.R_alloc|apply Kd.R_drewN|apply Kd.R_drew));exact Kd.R_mono HO1014.out (fun _ hk => trivial)⟩,⟨vk_ BK1001⟩,⟨bg_⟩⟩
    case rest =>
     clear HC15;(try clear c5);(try clear c5b0);(try clear hz16);(try clear hz20);obtain ⟨kq,x12_14,rfl,HA,HJ14,HO_10,HO_11,BK1001,HB⟩:=hcut
     cases kq with
     | zero => exact absurd HA.out (by simp [impl_relabel.j1])
     | succ kj14 =>
      have H:=HA.out;clear HA;simp only [impl_relabel.j1] at H
      by_cases c24 : a1_0 = 1
      ·rw [if_pos c24] at H;have c24b0:=eb_ c24;have c24b1:=en_ c24;clear c24;simp only [Option.some.injEq,Prod.mk.injEq] at H;obtain ⟨rfl,rfl⟩:=H;have hz25:=bk7_ BK1001;go_wp2;go_ret2;exact ⟨_,rf_,by (with_reducible repeat (first|apply Kd.R_alloc|apply Kd.R_drewN|apply Kd.R_drew));exact HO_10.out,bg_⟩
      ·rw [if_neg c24] at H;have c24b0:=nb_ c24;have c24b1:=nn_ c24
       by_cases c26 : a1_0 = 2
       ·rw [if_pos c26] at H;have c26b0:=eb_ c26;have c26b1:=en_ c26;clear c26;simp only [Option.some.injEq,Prod.mk.injEq] at H;obtain ⟨rfl,rfl⟩:=H;have hz27:=bk7_ BK1001;go_wp2;go_ret2;exact ⟨_,rf_,by (with_reducible repeat (first|apply Kd.R_alloc|apply Kd.R_drewN|apply Kd.R_drew));exact HO_10.out,bg_⟩
       ·rw [if_neg c26] at H;have c26b0:=nb_ c26;have c26b1:=nn_ c26
        by_cases c28 : a1_0 = 3
        ·rw [if_pos c28] at H;have c28b0:=eb_ c28;have c28b1:=en_ c28;clear c28
         by_cases c29 : x12_14 = true
         ·subst c29;replace H:=it_ H;replace H:=Option.bind_eq_some_iff.mp H;obtain ⟨t1016,A300,H⟩:=H;replace H : ((impl_with.f kj14 l0 a1_4 t1016).bind fun t1017 => ((impl_GoodLabels.f kj14 t1017).bind fun t1020 => (some (t1017,t1020)))) = some (r1,r2):=H;have A30:=am_ A300;clear A300;replace H:=Option.bind_eq_some_iff.mp H;obtain ⟨t1017,A310,H⟩:=H;replace H : ((impl_GoodLabels.f kj14 t1017).bind fun t1020 => (some (t1017,t1020))) = some (r1,r2):=H;have A31:=am_ A310;clear A310;replace H:=Option.bind_eq_some_iff.mp H;obtain ⟨t1020,A320,H⟩:=H;replace H : (some (t1017,t1020)) = some (r1,r2):=H;have A32:=am_ A320;clear A320;simp only [Option.some.injEq,Prod.mk.injEq] at H;obtain ⟨rfl,rfl⟩:=H;have hz33:=bk7_ BK1001;(try go_wp2);have n0_:=am_ (Kd.R_drew HO_10.out);have n1_:=am_ (Kd.R_drew HO_11.out);have n2_:=am_ (blk_drew BK1001.out);have n3_:=am_ (below_drew1 HB.out);clear HO_10;clear HO_11;clear BK1001;clear HB;have HO_10:=n0_;have HO_11:=n1_;have BK1001:=n2_;have HB:=n3_;clear n0_ n1_ n2_ n3_;obtain ⟨Ao35,co35,eo35⟩:=Kd.R_slice HO_11.out;(first|subst eo35|(injection eo35 with f1_ f2_ f3_;have f4_:=f1_.symm;have f5_:=f3_.symm;clear f1_ f2_ f3_;subst f4_;subst f5_));refine start_ (n:=9) (S:=fun w' => w'.cell? ⟨gb1001,0,none⟩ = some (.int .i64 a1_0) ∧ w'.cell? ⟨gb1001,1,none⟩ = some (.slice A1_1 l1_1.length c1_1) ∧ w'.cell? ⟨gb1001,2,none⟩ = some (.string a1_2) ∧ w'.cell? ⟨gb1001,3,none⟩ = some (.string a1_3) ∧ w'.cell? ⟨gb1001,4,none⟩ = some (.string a1_4) ∧ w'.cell? ⟨gb1001,5,none⟩ = some (.string a1_5) ∧ w'.cell? ⟨gb1001,6,none⟩ = some (.int .i64 a1_6)) (ds:=[]) (bz 9 0) (by kernel_rfl) rfl rfl ⟨(blk_cell BK1001.out 0).trans rfl,(blk_cell BK1001.out 1).trans rfl,(blk_cell BK1001.out 2).trans rfl,(blk_cell BK1001.out 3).trans rfl,(blk_cell BK1001.out 4).trans rfl,(blk_cell BK1001.out 5).trans rfl,(blk_cell BK1001.out 6).trans rfl⟩ (fun hHeld => ?_);refine with_tabW impl_relabel.tab18 impl_relabel.bits18 (fun HT_ HW_ => ?_);generalize wc.drew = w34 at HO_10 HO_11 BK1001 HB hHeld ⊢;refine pz_ 0 63 1 ?_;refine pz_ 1 64 3 ?_;refine pz_ 3 66 11 ?_;refine pz_ 5 68 43 ?_;refine tz_ 2 65 47 ?_;refine tz_ 4 67 63 ?_;refine one_ (i:=6) (N:=some 69) (bz 9 127) rfl rfl (one_of HT_.out (by kernel_rfl)) (by decide) (fun K hK => ?_);refine goes_ Tryz.func67 (by kernel_rfl) rfl #[.string a1_5,.slice Ao35 t1011.length co35] (by rfl) rfl rfl ag_ ?_;(with_reducible refine (impl_FillValue.calls kj14 a1_5 _ _ t1011 t1016 _ ?side1 ?side2 A30.out).mono ?_);(case side1 => exact cc_ (Kd.R_reads' HO_11.out).2.2);(case side2 => exact (Kd.R_reads' HO_11.out).2.1);rintro e w36 ⟨rfl,hb⟩;refine ⟨_,rfl,?_⟩;have n0_:=am_ (Kd.R_below (ro_ HO_10) hb);have n1_:=am_ (Kd.R_below (ro_ HO_11) hb);have n2_:=am_ (blk_below (g:=gb1001) (vk_ BK1001) hb);have n3_:=am_ (below_step bg_ hb);clear HO_10;clear HO_11;clear BK1001;clear HB;have HO_10:=n0_;have HO_11:=n1_;have BK1001:=n2_;have HB:=n3_;clear n0_ n1_ n2_ n3_;(try clear hb);(try clear hb2);(try clear hk);(try clear hi);refine hK.out _ _ ⟨(blk_cell BK1001.out 0).trans rfl,(blk_cell BK1001.out 1).trans rfl,(blk_cell BK1001.out 2).trans rfl,(blk_cell BK1001.out 3).trans rfl,(blk_cell BK1001.out 4).trans rfl,(blk_cell BK1001.out 5).trans rfl,(blk_cell BK1001.out 6).trans rfl⟩ (fun hHeld => ?_);clear hK K;refine norm_ (a':=?_) ?_ ?_;rotate_left
          ·show Act.put _ (some 69) _ = _;simp only [Act.put,List.setIfInBounds_toArray,List.set_cons_zero,List.set_cons_succ,i64_w,i32_w];rfl
          refine one_ (i:=7) (N:=some 70) (bz 9 255) rfl rfl (one_of HT_.out (by kernel_rfl)) (by decide) (fun K hK => ?_);refine goes_ Tryz.func66 (by kernel_rfl) rfl #[.slice A0 l0.length c0,.string a1_4,.string t1016] (by rfl) rfl rfl ag_ ?_;(with_reducible refine (impl_with.calls kj14 _ _ l0 a1_4 t1016 t1017 _ ?side1 ?side2 A31.out).mono ?_);(case side1 => exact cc_ (Kd.C_below HR0.out HB.out));(case side2 => exact HC0.out);rintro e w37 ⟨v1018,rfl,ho0,hb⟩;refine ⟨_,rfl,?_⟩;have n0_:=am_ (Kd.R_elder' (ro_ HO_10) (Kd.R_base ho0) hb);have n1_:=am_ (Kd.R_below (ro_ HO_11) hb);have n2_:=am_ (Kd.R_lower (Kd.R_new' ho0 (Kd.R_lt (ro_ HO_10))) (below_size bg_));have n3_:=am_ (blk_below (g:=gb1001) (vk_ BK1001) hb);have n4_:=am_ (below_step bg_ hb);clear HO_10;clear HO_11;clear BK1001;clear HB;have HO_10:=n0_;have HO_11:=n1_;have HO1019:=n2_;have BK1001:=n3_;have HB:=n4_;clear n0_ n1_ n2_ n3_ n4_;(try clear hb);(try clear hb2);(try clear hk);(try clear hi);(try clear ho0);refine hK.out _ _ ⟨(blk_cell BK1001.out 0).trans rfl,(blk_cell BK1001.out 1).trans rfl,(blk_cell BK1001.out 2).trans rfl,(blk_cell BK1001.out 3).trans rfl,(blk_cell BK1001.out 4).trans rfl,(blk_cell BK1001.out 5).trans rfl,(blk_cell BK1001.out 6).trans rfl⟩ (fun hHeld => ?_);clear hK K;refine norm_ (a':=?_) ?_ ?_;rotate_left
          ·show Act.put _ (some 70) _ = _;simp only [Act.put,List.setIfInBounds_toArray,List.set_cons_zero,List.set_cons_succ,i64_w,i32_w];rfl
          refine pz_ 8 10 511 ?_;refine done_ (done_of HT_.out (by kernel_rfl)) ?_;obtain ⟨Ao38,co38,eo38⟩:=Kd.R_slice HO1019.out;subst eo38;(try go_wp2_with (first|((with_reducible refine gate_callee (f:=29) rfl ?_);refine gl_ 130 Tryz.func29 #[.slice Ao38 t1017.length co38] ?_;(with_reducible refine (impl_GoodLabels.calls kj14 _ _ t1017 t1020 _ ?side1 ?side2 A32.out).mono ?_);(case side1 => exact cc_ (Kd.R_reads' HO1019.out).2.2);(case side2 => exact (Kd.R_reads' HO1019.out).2.1);rintro e w39 ⟨rfl,hb⟩;refine ⟨_,rfl,?_⟩;replace HO_10:=am_ (Kd.R_below (ro_ HO_10) hb);replace HO_11:=am_ (Kd.R_below (ro_ HO_11) hb);replace HO1019:=am_ (Kd.R_below (ro_ HO1019) hb);replace BK1001:=vb_ BK1001 hb;replace HB:=am_ (below_step bg_ hb);(try clear hb))));go_ret2;exact ⟨_,rf_,by (with_reducible repeat (first|apply Kd.R_alloc|apply Kd.R_drewN|apply Kd.R_drew));exact Kd.R_mono HO1019.out (fun _ hk => trivial),bg_⟩
         ·replace c29:=Bool.eq_false_iff.mpr c29;subst c29;replace H:=if_ H;replace H:=Option.bind_eq_some_iff.mp H;obtain ⟨t1021,A400,H⟩:=H;replace H : (some (t1008,t1021)) = some (r1,r2):=H;have A40:=am_ A400;clear A400;simp only [Option.some.injEq,Prod.mk.injEq] at H;obtain ⟨rfl,rfl⟩:=H;have hz41:=bk7_ BK1001;obtain ⟨Ao42,co42,eo42⟩:=Kd.R_slice HO_10.out;subst eo42;go_wp2_with (first|((with_reducible refine gate_callee (f:=29) rfl ?_);refine gl_ 130 Tryz.func29 #[.slice Ao42 t1008.length co42] ?_;(with_reducible refine (impl_GoodLabels.calls kj14 _ _ t1008 t1021 _ ?side1 ?side2 A40.out).mono ?_);(case side1 => exact cc_ (Kd.R_reads' HO_10.out).2.2);(case side2 => exact (Kd.R_reads' HO_10.out).2.1);rintro e w43 ⟨rfl,hb⟩;refine ⟨_,rfl,?_⟩;replace HO_10:=am_ (Kd.R_below (ro_ HO_10) hb);replace HO_11:=am_ (Kd.R_below (ro_ HO_11) hb);replace BK1001:=vb_ BK1001 hb;replace HB:=am_ (below_step bg_ hb);(try clear hb)));go_ret2;exact ⟨_,rf_,by (with_reducible repeat (first|apply Kd.R_alloc|apply Kd.R_drewN|apply Kd.R_drew));exact HO_10.out,bg_⟩
        ·rw [if_neg c28] at H;have c28b0:=nb_ c28;have c28b1:=nn_ c28
         by_cases c44 : a1_0 = 4
         ·rw [if_pos c44] at H;have c44b0:=eb_ c44;have c44b1:=en_ c44;clear c44;replace H:=is_ H;obtain ⟨cL_,H⟩:=H;have HL_:=am_ cL_;clear cL_;replace H:=Option.bind_eq_some_iff.mp H;obtain ⟨t1022,A450,H⟩:=H;replace H:=is_ H;obtain ⟨cM_,H⟩:=H;replace H:=Option.bind_eq_some_iff.mp H;obtain ⟨t1023,A460,H⟩:=H;have A45:=am_ A450;clear A450;have A46:=am_ A460;clear A460;have cM1_ : (a1_6 = 0) = False:=eq_false cM_;have cM2_ : (a1_6 == 0) = false:=(by simpa using cM_);have cM3_ : decide (a1_6 = 0) = false:=decide_eq_false cM_;replace H:=Option.bind_eq_some_iff.mp H;obtain ⟨t1024,A470,H⟩:=H;replace H : ((impl_GoodLabels.f kj14 t1024).bind fun t1027 => (some (t1024,t1027))) = some (r1,r2):=H;have A47:=am_ A470;clear A470;replace H:=Option.bind_eq_some_iff.mp H;obtain ⟨t1027,A480,H⟩:=H;replace H : (some (t1024,t1027)) = some (r1,r2):=H;have A48:=am_ A480;clear A480;simp only [Option.some.injEq,Prod.mk.injEq] at H;obtain ⟨rfl,rfl⟩:=H;have hz49:=bk7_ BK1001;(try go_wp2);have n0_:=am_ (Kd.R_drew HO_10.out);have n1_:=am_ (Kd.R_drew HO_11.out);have n2_:=am_ (blk_drew BK1001.out);have n3_:=am_ (below_drew1 HB.out);clear HO_10;clear HO_11;clear BK1001;clear HB;have HO_10:=n0_;have HO_11:=n1_;have BK1001:=n2_;have HB:=n3_;clear n0_ n1_ n2_ n3_;refine start_ (n:=12) (S:=fun w' => w'.cell? ⟨gb1001,0,none⟩ = some (.int .i64 a1_0) ∧ w'.cell? ⟨gb1001,1,none⟩ = some (.slice A1_1 l1_1.length c1_1) ∧ w'.cell? ⟨gb1001,2,none⟩ = some (.string a1_2) ∧ w'.cell? ⟨gb1001,3,none⟩ = some (.string a1_3) ∧ w'.cell? ⟨gb1001,4,none⟩ = some (.string a1_4) ∧ w'.cell? ⟨gb1001,5,none⟩ = some (.string a1_5) ∧ w'.cell? ⟨gb1001,6,none⟩ = some (.int .i64 a1_6)) (ds:=[]) (bz 12 0) (by kernel_rfl) rfl rfl ⟨(blk_cell BK1001.out 0).trans rfl,(blk_cell BK1001.out 1).trans rfl,(blk_cell BK1001.out 2).trans rfl,(blk_cell BK1001.out 3).trans rfl,(blk_cell BK1001.out 4).trans rfl,(blk_cell BK1001.out 5).trans rfl,(blk_cell BK1001.out 6).trans rfl⟩ (fun hHeld => ?_);refine with_tabW impl_relabel.tab20 impl_relabel.bits20 (fun HT_ HW_ => ?_);generalize wc.drew = w50 at HO_10 HO_11 BK1001 HB hHeld ⊢;refine pz_ 0 73 1 ?_;refine pz_ 1 74 3 ?_;refine pz_ 3 76 11 ?_;refine pz_ 6 79 75 ?_;refine tz_ 2 75 79 ?_;refine tz_ 7 80 207 ?_;refine one_ (i:=4) (N:=some 77) (bz 12 223) rfl rfl (one_of HT_.out (by kernel_rfl)) (by decide) (fun K hK => ?_);refine event_step (by rfl) (w1:=Lib.bytesWorld w50 5 t1007) (v:=.slice (some ⟨w50.heap.size,0,none⟩) t1007.size (grownCap w50 t1007.size 0 5)) (by simp [execOp,Act.eval,print_bytes (P:=Tryz.prog) 9 70 5 Tryz.underlying9 Tryz.underlying70 Tryz.underlying5 t1007 w50]) ?_;have hb:=bytes_below (Below.refl w50.heap.size w50) (Nat.le_refl _) 5 t1007;have HC8 : Aside0 (Kd.C (Kd.int .u8) (Lib.bytesWorld w50 5 t1007) (some ⟨w50.heap.size,0,none⟩) t1007.size (bytesOf t1007)):=am_ (Kd.C_of_reads (d:=(0 : Int)) (h1:=fun _ => rfl) (bytes_reads w50 5 t1007 (by have:=HL_.out;omega)));have HG8:=am_ (grownCap_ge w50 t1007.size 0 5);generalize Lib.bytesWorld w50 5 t1007 = wb_ at hb HC8 ⊢;generalize grownCap w50 t1007.size 0 5 = cb_ at HG8 ⊢;obtain ⟨gb_,hgb_⟩ : ∃ g_,w50.heap.size = g_:=⟨_,rfl⟩;simp only [hgb_] at HC8 ⊢;have n0_:=am_ (Kd.R_below (ro_ HO_10) hb);have n1_:=am_ (Kd.R_below (ro_ HO_11) hb);have n2_:=am_ (blk_below (g:=gb1001) (vk_ BK1001) hb);have n3_:=am_ (below_step bg_ hb);clear HO_10;clear HO_11;clear BK1001;clear HB;have HO_10:=n0_;have HO_11:=n1_;have BK1001:=n2_;have HB:=n3_;clear n0_ n1_ n2_ n3_;(try clear hb);(try clear hb2);(try clear hk);(try clear hi);refine hK.out _ _ ⟨(blk_cell BK1001.out 0).trans rfl,(blk_cell BK1001.out 1).trans rfl,(blk_cell BK1001.out 2).trans rfl,(blk_cell BK1001.out 3).trans rfl,(blk_cell BK1001.out 4).trans rfl,(blk_cell BK1001.out 5).trans rfl,(blk_cell BK1001.out 6).trans rfl⟩ (fun hHeld => ?_);clear hK K;refine norm_ (a':=?_) ?_ ?_;rotate_left
          ·show Act.put _ (some 77) _ = _;simp only [Act.put,List.setIfInBounds_toArray,List.set_cons_zero,List.set_cons_succ,i64_w,i32_w];rfl
          refine one_ (i:=5) (N:=some 78) (bz 12 255) rfl rfl (one_of HT_.out (by kernel_rfl)) (by decide) (fun K hK => ?_);refine goes_ Tryz.func69 (by kernel_rfl) rfl #[.slice (some ⟨gb_,0,none⟩) t1007.size cb_] (by rfl) rfl rfl ag_ ?_;(with_reducible refine (Calls.mono (by have h_:=impl_Mix.calls kj14 (some ⟨gb_,0,none⟩) cb_ (bytesOf t1007) t1022 wb_ (by rw [bytesOf_length];exact HC8.out) (by rw [bytesOf_length];have:=HG8.out;omega) A45.out;rw [bytesOf_length] at h_;exact h_) ?_));rintro e w51 ⟨rfl,hd_⟩;have hb:=drawn_below hd_;clear hd_;refine ⟨_,rfl,?_⟩;have n0_:=am_ (Kd.R_below (ro_ HO_10) hb);have n1_:=am_ (Kd.R_below (ro_ HO_11) hb);have n2_:=am_ (blk_below (g:=gb1001) (vk_ BK1001) hb);have n3_:=am_ (below_step bg_ hb);clear HO_10;clear HO_11;clear BK1001;clear HB;have HO_10:=n0_;have HO_11:=n1_;have BK1001:=n2_;have HB:=n3_;clear n0_ n1_ n2_ n3_;(try clear hb);(try clear hb2);(try clear hk);(try clear hi);refine hK.out _ _ ⟨(blk_cell BK1001.out 0).trans rfl,(blk_cell BK1001.out 1).trans rfl,(blk_cell BK1001.out 2).trans rfl,(blk_cell BK1001.out 3).trans rfl,(blk_cell BK1001.out 4).trans rfl,(blk_cell BK1001.out 5).trans rfl,(blk_cell BK1001.out 6).trans rfl⟩ (fun hHeld => ?_);clear hK K;refine norm_ (a':=?_) ?_ ?_;rotate_left
          ·show Act.put _ (some 78) _ = _;simp only [Act.put,List.setIfInBounds_toArray,List.set_cons_zero,List.set_cons_succ,i64_w,i32_w];rfl
          refine pz_ (v:=.int .i64 (Int.tmod t1022 a1_6)) 8 81 511 ?_ (hy:=Or.inl ⟨by rfl,by intro w';go_simp⟩);refine one_ (i:=9) (N:=some 82) (bz 12 1023) rfl rfl (one_of HT_.out (by kernel_rfl)) (by decide) (fun K hK => ?_);refine goes_ Tryz.func68 (by kernel_rfl) rfl #[.int .i64 (Int.tmod t1022 a1_6)] (by rfl) rfl rfl ag_ ?_;(with_reducible refine (impl_digitsOf.calls (Int.tmod t1022 a1_6) t1023 _ A46.out).mono ?_);rintro e w52 ⟨rfl,hb⟩;refine ⟨_,rfl,?_⟩;have n0_:=am_ (Kd.R_below (ro_ HO_10) hb);have n1_:=am_ (Kd.R_below (ro_ HO_11) hb);have n2_:=am_ (blk_below (g:=gb1001) (vk_ BK1001) hb);have n3_:=am_ (below_step bg_ hb);clear HO_10;clear HO_11;clear BK1001;clear HB;have HO_10:=n0_;have HO_11:=n1_;have BK1001:=n2_;have HB:=n3_;clear n0_ n1_ n2_ n3_;(try clear hb);(try clear hb2);(try clear hk);(try clear hi);refine hK.out _ _ ⟨(blk_cell BK1001.out 0).trans rfl,(blk_cell BK1001.out 1).trans rfl,(blk_cell BK1001.out 2).trans rfl,(blk_cell BK1001.out 3).trans rfl,(blk_cell BK1001.out 4).trans rfl,(blk_cell BK1001.out 5).trans rfl,(blk_cell BK1001.out 6).trans rfl⟩ (fun hHeld => ?_);clear hK K;refine norm_ (a':=?_) ?_ ?_;rotate_left
          ·show Act.put _ (some 82) _ = _;simp only [Act.put,List.setIfInBounds_toArray,List.set_cons_zero,List.set_cons_succ,i64_w,i32_w];rfl
          refine one_ (i:=10) (N:=some 83) (bz 12 2047) rfl rfl (one_of HT_.out (by kernel_rfl)) (by decide) (fun K hK => ?_);refine goes_ Tryz.func66 (by kernel_rfl) rfl #[.slice A0 l0.length c0,.string a1_4,.string t1023] (by rfl) rfl rfl ag_ ?_;(with_reducible refine (impl_with.calls kj14 _ _ l0 a1_4 t1023 t1024 _ ?side1 ?side2 A47.out).mono ?_);(case side1 => exact cc_ (Kd.C_below HR0.out HB.out));(case side2 => exact HC0.out);rintro e w53 ⟨v1025,rfl,ho0,hb⟩;refine ⟨_,rfl,?_⟩;have n0_:=am_ (Kd.R_elder' (ro_ HO_10) (Kd.R_base ho0) hb);have n1_:=am_ (Kd.R_below (ro_ HO_11) hb);have n2_:=am_ (Kd.R_lower (Kd.R_new' ho0 (Kd.R_lt (ro_ HO_10))) (below_size bg_));have n3_:=am_ (blk_below (g:=gb1001) (vk_ BK1001) hb);have n4_:=am_ (below_step bg_ hb);clear HO_10;clear HO_11;clear BK1001;clear HB;have HO_10:=n0_;have HO_11:=n1_;have HO1026:=n2_;have BK1001:=n3_;have HB:=n4_;clear n0_ n1_ n2_ n3_ n4_;(try clear hb);(try clear hb2);(try clear hk);(try clear hi);(try clear ho0);refine hK.out _ _ ⟨(blk_cell BK1001.out 0).trans rfl,(blk_cell BK1001.out 1).trans rfl,(blk_cell BK1001.out 2).trans rfl,(blk_cell BK1001.out 3).trans rfl,(blk_cell BK1001.out 4).trans rfl,(blk_cell BK1001.out 5).trans rfl,(blk_cell BK1001.out 6).trans rfl⟩ (fun hHeld => ?_);clear hK K;refine norm_ (a':=?_) ?_ ?_;rotate_left
          ·show Act.put _ (some 83) _ = _;simp only [Act.put,List.setIfInBounds_toArray,List.set_cons_zero,List.set_cons_succ,i64_w,i32_w];rfl
          refine pz_ 11 10 4095 ?_;refine done_ (done_of HT_.out (by kernel_rfl)) ?_;obtain ⟨Ao54,co54,eo54⟩:=Kd.R_slice HO1026.out;subst eo54;(try go_wp2_with (first|((with_reducible refine gate_callee (f:=29) rfl ?_);refine gl_ 130 Tryz.func29 #[.slice Ao54 t1024.length co54] ?_;(with_reducible refine (impl_GoodLabels.calls kj14 _ _ t1024 t1027 _ ?side1 ?side2 A48.out).mono ?_);(case side1 => exact cc_ (Kd.R_reads' HO1026.out).2.2);(case side2 => exact (Kd.R_reads' HO1026.out).2.1);rintro e w55 ⟨rfl,hb⟩;refine ⟨_,rfl,?_⟩;replace HO_10:=am_ (Kd.R_below (ro_ HO_10) hb);replace HO_11:=am_ (Kd.R_below (ro_ HO_11) hb);replace HO1026:=am_ (Kd.R_below (ro_ HO1026) hb);replace BK1001:=vb_ BK1001 hb;replace HB:=am_ (below_step bg_ hb);(try clear hb))));go_ret2;exact ⟨_,rf_,by (with_reducible repeat (first|apply Kd.R_alloc|apply Kd.R_drewN|apply Kd.R_drew));exact Kd.R_mono HO1026.out (fun _ hk => trivial),bg_⟩
         ·rw [if_neg c44] at H;have c44b0:=nb_ c44;have c44b1:=nn_ c44
          by_cases c56 : a1_0 = 8
          ·rw [if_pos c56] at H;have c56b0:=eb_ c56;have c56b1:=en_ c56;clear c56;replace H:=Option.bind_eq_some_iff.mp H;obtain ⟨t1028,A570,H⟩:=H;replace H : ((impl_with.f kj14 l0 a1_4 t1028).bind fun t1029 => ((impl_GoodLabels.f kj14 t1029).bind fun t1032 => (some (t1029,t1032)))) = some (r1,r2):=H;have A57:=am_ A570;clear A570;replace H:=Option.bind_eq_some_iff.mp H;obtain ⟨t1029,A580,H⟩:=H;replace H : ((impl_GoodLabels.f kj14 t1029).bind fun t1032 => (some (t1029,t1032))) = some (r1,r2):=H;have A58:=am_ A580;clear A580;replace H:=Option.bind_eq_some_iff.mp H;obtain ⟨t1032,A590,H⟩:=H;replace H : (some (t1029,t1032)) = some (r1,r2):=H;have A59:=am_ A590;clear A590;simp only [Option.some.injEq,Prod.mk.injEq] at H;obtain ⟨rfl,rfl⟩:=H;have hz60:=bk7_ BK1001;(try go_wp2);have n0_:=am_ (Kd.R_drew HO_10.out);have n1_:=am_ (Kd.R_drew HO_11.out);have n2_:=am_ (blk_drew BK1001.out);have n3_:=am_ (below_drew1 HB.out);clear HO_10;clear HO_11;clear BK1001;clear HB;have HO_10:=n0_;have HO_11:=n1_;have BK1001:=n2_;have HB:=n3_;clear n0_ n1_ n2_ n3_;refine start_ (n:=7) (S:=fun w' => w'.cell? ⟨gb1001,0,none⟩ = some (.int .i64 a1_0) ∧ w'.cell? ⟨gb1001,1,none⟩ = some (.slice A1_1 l1_1.length c1_1) ∧ w'.cell? ⟨gb1001,2,none⟩ = some (.string a1_2) ∧ w'.cell? ⟨gb1001,3,none⟩ = some (.string a1_3) ∧ w'.cell? ⟨gb1001,4,none⟩ = some (.string a1_4) ∧ w'.cell? ⟨gb1001,5,none⟩ = some (.string a1_5) ∧ w'.cell? ⟨gb1001,6,none⟩ = some (.int .i64 a1_6)) (ds:=[]) (bz 7 0) (by kernel_rfl) rfl rfl ⟨(blk_cell BK1001.out 0).trans rfl,(blk_cell BK1001.out 1).trans rfl,(blk_cell BK1001.out 2).trans rfl,(blk_cell BK1001.out 3).trans rfl,(blk_cell BK1001.out 4).trans rfl,(blk_cell BK1001.out 5).trans rfl,(blk_cell BK1001.out 6).trans rfl⟩ (fun hHeld => ?_);generalize wc.drew = w61 at HO_10 HO_11 BK1001 HB hHeld ⊢;refine pure_ (i:=0) (N:=some 86) (v:=?_) (a':=?_) (bz 7 1) rfl rfl (by kernel_rfl) (fun _ _ _ h => h) (Or.inl ⟨by rfl,?_⟩) ?_ ?_;rotate_left
           ·intro w';go_simp;(with_reducible rfl)
           rotate_left
           ·simp only [Act.put,List.setIfInBounds_toArray,List.set_cons_zero,List.set_cons_succ,i64_w,i32_w];rfl
           refine pure_ (i:=1) (N:=some 87) (v:=?_) (a':=?_) (bz 7 3) rfl rfl (by kernel_rfl) (fun _ _ _ h => h) (Or.inl ⟨by rfl,?_⟩) ?_ ?_;rotate_left
           ·intro w';go_simp;(with_reducible rfl)
           rotate_left
           ·simp only [Act.put,List.setIfInBounds_toArray,List.set_cons_zero,List.set_cons_succ,i64_w,i32_w];rfl
           refine pure_ (i:=3) (N:=some 89) (v:=?_) (a':=?_) (bz 7 11) rfl rfl (by kernel_rfl) (fun _ _ _ h => h) (Or.inl ⟨by rfl,?_⟩) ?_ ?_;rotate_left
           ·intro w';go_simp;(with_reducible rfl)
           rotate_left
           ·simp only [Act.put,List.setIfInBounds_toArray,List.set_cons_zero,List.set_cons_succ,i64_w,i32_w];rfl
           refine take_ (i:=2) (N:=some 88) (v:=?_) (a':=?_) (bz 7 15) rfl rfl (by kernel_rfl) (fun _ _ _ h => h) (Or.inl ⟨by rfl,?_⟩) hHeld ?_ ?_;rotate_left
           ·rintro w' ⟨s0,s1,s2,s3,s4,s5,s6⟩;go_simp;(with_reducible rfl)
           rotate_left
           ·simp only [Act.put,List.setIfInBounds_toArray,List.set_cons_zero,List.set_cons_succ,i64_w,i32_w];rfl
           refine one_ (i:=4) (N:=some 90) (bz 7 31) rfl rfl (by kernel_rfl) (by decide) (fun K hK => ?_);refine goes_ Tryz.func70 (by kernel_rfl) rfl #[.string t1007] (by rfl) rfl rfl ag_ ?_;(with_reducible refine (impl_lower.calls kj14 t1007 t1028 _ A57.out).mono ?_);rintro e w62 ⟨rfl,hb⟩;refine ⟨_,rfl,?_⟩;have n0_:=am_ (Kd.R_below (ro_ HO_10) hb);have n1_:=am_ (Kd.R_below (ro_ HO_11) hb);have n2_:=am_ (blk_below (g:=gb1001) (vk_ BK1001) hb);have n3_:=am_ (below_step bg_ hb);clear HO_10;clear HO_11;clear BK1001;clear HB;have HO_10:=n0_;have HO_11:=n1_;have BK1001:=n2_;have HB:=n3_;clear n0_ n1_ n2_ n3_;(try clear hb);(try clear hb2);(try clear hk);(try clear hi);refine hK.out _ _ ⟨(blk_cell BK1001.out 0).trans rfl,(blk_cell BK1001.out 1).trans rfl,(blk_cell BK1001.out 2).trans rfl,(blk_cell BK1001.out 3).trans rfl,(blk_cell BK1001.out 4).trans rfl,(blk_cell BK1001.out 5).trans rfl,(blk_cell BK1001.out 6).trans rfl⟩ (fun hHeld => ?_);clear hK K;refine norm_ (a':=?_) ?_ ?_;rotate_left
           ·show Act.put _ (some 90) _ = _;simp only [Act.put,List.setIfInBounds_toArray,List.set_cons_zero,List.set_cons_succ,i64_w,i32_w];rfl
           refine one_ (i:=5) (N:=some 91) (bz 7 63) rfl rfl (by kernel_rfl) (by decide) (fun K hK => ?_);refine goes_ Tryz.func66 (by kernel_rfl) rfl #[.slice A0 l0.length c0,.string a1_4,.string t1028] (by rfl) rfl rfl ag_ ?_;(with_reducible refine (impl_with.calls kj14 _ _ l0 a1_4 t1028 t1029 _ ?side1 ?side2 A58.out).mono ?_);(case side1 => exact cc_ (Kd.C_below HR0.out HB.out));(case side2 => exact HC0.out);rintro e w63 ⟨v1030,rfl,ho0,hb⟩;refine ⟨_,rfl,?_⟩;have n0_:=am_ (Kd.R_elder' (ro_ HO_10) (Kd.R_base ho0) hb);have n1_:=am_ (Kd.R_below (ro_ HO_11) hb);have n2_:=am_ (Kd.R_lower (Kd.R_new' ho0 (Kd.R_lt (ro_ HO_10))) (below_size bg_));have n3_:=am_ (blk_below (g:=gb1001) (vk_ BK1001) hb);have n4_:=am_ (below_step bg_ hb);clear HO_10;clear HO_11;clear BK1001;clear HB;have HO_10:=n0_;have HO_11:=n1_;have HO1031:=n2_;have BK1001:=n3_;have HB:=n4_;clear n0_ n1_ n2_ n3_ n4_;(try clear hb);(try clear hb2);(try clear hk);(try clear hi);(try clear ho0);refine hK.out _ _ ⟨(blk_cell BK1001.out 0).trans rfl,(blk_cell BK1001.out 1).trans rfl,(blk_cell BK1001.out 2).trans rfl,(blk_cell BK1001.out 3).trans rfl,(blk_cell BK1001.out 4).trans rfl,(blk_cell BK1001.out 5).trans rfl,(blk_cell BK1001.out 6).trans rfl⟩ (fun hHeld => ?_);clear hK K;refine norm_ (a':=?_) ?_ ?_;rotate_left
           ·show Act.put _ (some 91) _ = _;simp only [Act.put,List.setIfInBounds_toArray,List.set_cons_zero,List.set_cons_succ,i64_w,i32_w];rfl
           refine pure_ (i:=6) (N:=some 10) (v:=?_) (a':=?_) (bz 7 127) rfl rfl (by kernel_rfl) (fun _ _ _ h => h) (Or.inl ⟨by rfl,?_⟩) ?_ ?_;rotate_left
           ·intro w';go_simp;(with_reducible rfl)
           rotate_left
           ·simp only [Act.put,List.setIfInBounds_toArray,List.set_cons_zero,List.set_cons_succ,i64_w,i32_w];rfl
           refine done_ (by kernel_rfl) ?_;obtain ⟨Ao64,co64,eo64⟩:=Kd.R_slice HO1031.out;subst eo64;(try go_wp2_with (first|((with_reducible refine gate_callee (f:=29) rfl ?_);refine gl_ 130 Tryz.func29 #[.slice Ao64 t1029.length co64] ?_;(with_reducible refine (impl_GoodLabels.calls kj14 _ _ t1029 t1032 _ ?side1 ?side2 A59.out).mono ?_);(case side1 => exact cc_ (Kd.R_reads' HO1031.out).2.2);(case side2 => exact (Kd.R_reads' HO1031.out).2.1);rintro e w65 ⟨rfl,hb⟩;refine ⟨_,rfl,?_⟩;replace HO_10:=am_ (Kd.R_below (ro_ HO_10) hb);replace HO_11:=am_ (Kd.R_below (ro_ HO_11) hb);replace HO1031:=am_ (Kd.R_below (ro_ HO1031) hb);replace BK1001:=vb_ BK1001 hb;replace HB:=am_ (below_step bg_ hb);(try clear hb))));go_ret2;exact ⟨_,rf_,by (with_reducible repeat (first|apply Kd.R_alloc|apply Kd.R_drewN|apply Kd.R_drew));exact Kd.R_mono HO1031.out (fun _ hk => trivial),bg_⟩
          ·rw [if_neg c56] at H;have c56b0:=nb_ c56;have c56b1:=nn_ c56
           by_cases c66 : a1_0 = 5
           ·rw [if_pos c66] at H;have c66b0:=eb_ c66;have c66b1:=en_ c66;clear c66;have H':=am_ H;clear H;have hz67:=bk7_ BK1001;go_wp2
            go_loopg [10,96] kj14 (fun kq v10 v96 w' => ∃ (x10_3 : List (S53)) (x96_3 : Int),v96 = .int .i64 x96_3 ∧ Aside0 (impl_relabel.l1 kq x10_3 l0 (l0.length : Int) x96_3 a1_0 l1_1 a1_2 a1_3 a1_4 a1_5 a1_6 = some (r1,r2)) ∧ Aside0 (kq ≤ kj14) ∧ Aside0 (Kd.R k53 53 w' w.heap.size (fun _ => True) v10 x10_3) ∧ Aside0 (w'.heap[gb1001]? = some (.cells #[.int .i64 a1_0,(.slice A1_1 l1_1.length c1_1),.string a1_2,.string a1_3,.string a1_4,.string a1_5,.int .i64 a1_6] 32 (0,0))) ∧ Aside0 (Below w.heap.size w w'))
            case atStart => exact ⟨(t1008),(0),rs_,H',⟨Nat.le_refl _⟩,⟨ro_ HO_10⟩,⟨vk_ BK1001⟩,⟨bg_⟩⟩
            case round =>
             clear H';(try clear c28);(try clear c28b0);(try clear c28b1);(try clear c44);(try clear c44b0);(try clear c44b1);(try clear c56);(try clear c56b0);(try clear c56b1);(try clear c66);(try clear c66b0);(try clear c66b1);(try clear hz67);obtain ⟨x10_3,x96_3,rfl,HA,HK3,HO_10,BK1001,HB⟩:=hrel
             cases gk with
             | zero => exact absurd HA.out (by simp [impl_relabel.l1])
             | succ k3 =>
              have H:=HA.out;clear HA;simp only [impl_relabel.l1] at H
              by_cases c68 : x96_3 < (l0.length : Int)
              ·rw [if_pos c68] at H;have c68b0:=decide_eq_true c68;clear c68;replace H:=is_ H;obtain ⟨c69,H⟩:=H;have c69b0:=decide_eq_true c69;clear c69;replace H:=is_ H;obtain ⟨c70,H⟩:=H;have c70b0:=decide_eq_true c70;clear c70;replace H:=Option.bind_eq_some_iff.mp H;obtain ⟨⟨t1036,t1037⟩,A710,H⟩:=H;replace H : (if t1037 = true then ((impl_FillValue.f k3 a1_5 t1036).bind fun t1040 => ((impl_with.f k3 x10_3 t1040 ((rd_T53 l0 x96_3).f1)).bind fun t1041 => (impl_relabel.l1 k3 t1041 l0 (l0.length : Int) (wrap64 (x96_3 + 1)) a1_0 l1_1 a1_2 a1_3 a1_4 a1_5 a1_6))) else (impl_relabel.l1 k3 x10_3 l0 (l0.length : Int) (wrap64 (x96_3 + 1)) a1_0 l1_1 a1_2 a1_3 a1_4 a1_5 a1_6)) = some (r1,r2):=H;have A71:=am_ A710;clear A710
               by_cases c72 : t1037 = true
               ·subst c72;replace H:=it_ H;replace H:=Option.bind_eq_some_iff.mp H;obtain ⟨t1040,A730,H⟩:=H;replace H : ((impl_with.f k3 x10_3 t1040 ((rd_T53 l0 x96_3).f1)).bind fun t1041 => (impl_relabel.l1 k3 t1041 l0 (l0.length : Int) (wrap64 (x96_3 + 1)) a1_0 l1_1 a1_2 a1_3 a1_4 a1_5 a1_6)) = some (r1,r2):=H;have A73:=am_ A730;clear A730;replace H:=Option.bind_eq_some_iff.mp H;obtain ⟨t1041,A740,H⟩:=H;replace H : (impl_relabel.l1 k3 t1041 l0 (l0.length : Int) (wrap64 (x96_3 + 1)) a1_0 l1_1 a1_2 a1_3 a1_4 a1_5 a1_6) = some (r1,r2):=H;have A74:=am_ A740;clear A740;have H':=am_ H;clear H;have p1034 : 0 ≤ (x96_3 : Int):=od_;have q1034 : x96_3 < (l0.length : Int):=od_;obtain ⟨ad1034,e1034,hx1034_0,hx1034_1⟩:=at_T53 HR0.out x96_3 p1034 q1034
                cases e1034
                replace hx1034_0:=kp_ HB hx1034_0;replace hx1034_1:=kp_ HB hx1034_1;replace p1034:=eq_true p1034;replace q1034:=eq_true q1034;(try go_wp2_with (first|((with_reducible refine gate_dst (N:=14) rfl ?_);refine bx_ 14 #[.string (⟨#[]⟩ : ByteArray),.string (⟨#[]⟩ : ByteArray)] 53 ?_;intro gb1035 hg w75 hbox hb;have BK1035:=am_ (hbox);have GW1035:=am_ (gg_ hg : w.heap.size ≤ gb1035);have NB1001_1035:=nl_ BK1001 hg;have NB1035_1001:=nr_ BK1001 hg;replace HO_10:=am_ (Kd.R_below (Kd.R_elderB (ro_ HO_10) gb1035 (Nat.le_of_eq hg.symm)) hb);replace BK1001:=vb_ BK1001 hb;replace HB:=am_ (below_step bg_ hb);have GE1035:=GW1035;clear hb hbox hg;have hnb76:=NB1035_1001.out;have hnc76:=NB1001_1035.out;have hz77:=bk2_ BK1035;have hz78:=bk7_ BK1001)|((with_reducible refine gate_callee (f:=65) rfl ?_);refine gl_ 105 Tryz.func65 #[.string a1_3,.string ((rd_T53 l0 x96_3).f0)] ?_;(with_reducible refine (impl_PatternParts.calls k3 a1_3 ((rd_T53 l0 x96_3).f0) t1036 true _ A71.out).mono ?_);rintro e w79 ⟨v1038,rfl,ho0,hb⟩;refine ⟨_,rfl,?_⟩;have HO1039:=am_ (Kd.R_lower ho0 (below_size bg_));replace HO_10:=am_ (Kd.R_below (by (with_reducible repeat (first|apply Kd.R_alloc|apply Kd.R_drewN|apply Kd.R_drew));exact (Kd.R_mono (Kd.R_far (p:=⟨gb1035,1,none⟩) (Kd.R_far (p:=⟨gb1035,0,none⟩) (Kd.R_mono HO_10.out (fun k_ hk => (⟨hk,hk.2⟩ : _ ∧ k_ ≠ gb1035))) (fun _ hk => hk.2) (.string ((rd_T53 l0 x96_3).f0))) (fun _ hk => hk.2) (.string ((rd_T53 l0 x96_3).f1))) (fun _ h_ => h_.1))) hb);replace BK1001:=am_ (blk_below (g:=gb1001) (o:=.cells #[.int .i64 a1_0,.slice A1_1 l1_1.length c1_1,.string a1_2,.string a1_3,.string a1_4,.string a1_5,.int .i64 a1_6] 32 (0,0)) (vf_ BK1001) hb);replace BK1035:=am_ (blk_below (g:=gb1035) (o:=.cells #[.string ((rd_T53 l0 x96_3).f0),.string ((rd_T53 l0 x96_3).f1)] 53 (0,0)) (by (with_reducible repeat (first|refine blk_drewN ?_ _|refine blk_drew ?_|refine blk_alloc ?_ _));refine blk_put (cs:=#[.string ((rd_T53 l0 x96_3).f0),.string (⟨#[]⟩ : ByteArray)]) ?_ 1 _ rfl;(with_reducible repeat (first|refine blk_drewN ?_ _|refine blk_drew ?_|refine blk_alloc ?_ _));refine blk_put (cs:=#[.string (⟨#[]⟩ : ByteArray),.string (⟨#[]⟩ : ByteArray)]) ?_ 0 _ rfl;(with_reducible repeat (first|refine blk_drewN ?_ _|refine blk_drew ?_|refine blk_alloc ?_ _));exact BK1035.out) hb);replace HB:=am_ (below_step bg_ hb);(try clear hb);(try clear ho0))));have n0_:=am_ (Kd.R_drew HO_10.out);have n1_:=am_ (Kd.R_drew HO1039.out);have n2_:=am_ (blk_drew BK1001.out);have n3_:=am_ (blk_drew BK1035.out);have n4_:=am_ (below_drew1 HB.out);clear HO_10;clear HO1039;clear BK1001;clear BK1035;clear HB;have HO_10:=n0_;have HO1039:=n1_;have BK1001:=n2_;have BK1035:=n3_;have HB:=n4_;clear n0_ n1_ n2_ n3_ n4_;obtain ⟨Ao81,co81,eo81⟩:=Kd.R_slice HO1039.out;(first|subst eo81|(injection eo81 with f1_ f2_ f3_;have f4_:=f1_.symm;have f5_:=f3_.symm;clear f1_ f2_ f3_;subst f4_;subst f5_));refine start_ (n:=9) (S:=fun w' => w'.cell? ⟨gb1001,0,none⟩ = some (.int .i64 a1_0) ∧ w'.cell? ⟨gb1001,1,none⟩ = some (.slice A1_1 l1_1.length c1_1) ∧ w'.cell? ⟨gb1001,2,none⟩ = some (.string a1_2) ∧ w'.cell? ⟨gb1001,3,none⟩ = some (.string a1_3) ∧ w'.cell? ⟨gb1001,4,none⟩ = some (.string a1_4) ∧ w'.cell? ⟨gb1001,5,none⟩ = some (.string a1_5) ∧ w'.cell? ⟨gb1001,6,none⟩ = some (.int .i64 a1_6) ∧ w'.cell? ⟨gb1035,0,none⟩ = some (.string ((rd_T53 l0 x96_3).f0)) ∧ w'.cell? ⟨gb1035,1,none⟩ = some (.string ((rd_T53 l0 x96_3).f1))) (ds:=[]) (bz 9 0) (by kernel_rfl) rfl rfl ⟨(blk_cell BK1001.out 0).trans rfl,(blk_cell BK1001.out 1).trans rfl,(blk_cell BK1001.out 2).trans rfl,(blk_cell BK1001.out 3).trans rfl,(blk_cell BK1001.out 4).trans rfl,(blk_cell BK1001.out 5).trans rfl,(blk_cell BK1001.out 6).trans rfl,(blk_cell BK1035.out 0).trans rfl,(blk_cell BK1035.out 1).trans rfl⟩ (fun hHeld => ?_);refine with_tabW impl_relabel.tab29 impl_relabel.bits29 (fun HT_ HW_ => ?_);generalize w79.drew = w80 at HO_10 HO1039 BK1001 BK1035 HB hHeld ⊢;refine pz_ 0 109 1 ?_;refine pz_ 1 110 3 ?_;refine pz_ 3 112 11 ?_;refine pz_ 5 114 43 ?_;refine tz_ 2 111 47 ?_;refine tz_ 6 115 111 ?_;refine one_ (i:=4) (N:=some 113) (bz 9 127) rfl rfl (one_of HT_.out (by kernel_rfl)) (by decide) (fun K hK => ?_);refine goes_ Tryz.func67 (by kernel_rfl) rfl #[.string a1_5,.slice Ao81 t1036.length co81] (by rfl) rfl rfl ag_ ?_;(with_reducible refine (impl_FillValue.calls k3 a1_5 _ _ t1036 t1040 _ ?side1 ?side2 A73.out).mono ?_);(case side1 => exact cc_ (Kd.R_reads' HO1039.out).2.2);(case side2 => exact (Kd.R_reads' HO1039.out).2.1);rintro e w82 ⟨rfl,hb⟩;refine ⟨_,rfl,?_⟩;have n0_:=am_ (Kd.R_below (ro_ HO_10) hb);have n1_:=am_ (Kd.R_below (ro_ HO1039) hb);have n2_:=am_ (blk_below (g:=gb1001) (vk_ BK1001) hb);have n3_:=am_ (blk_below (g:=gb1035) (vk_ BK1035) hb);have n4_:=am_ (below_step bg_ hb);clear HO_10;clear HO1039;clear BK1001;clear BK1035;clear HB;have HO_10:=n0_;have HO1039:=n1_;have BK1001:=n2_;have BK1035:=n3_;have HB:=n4_;clear n0_ n1_ n2_ n3_ n4_;(try clear hb);(try clear hb2);(try clear hk);(try clear hi);obtain ⟨Ao83,co83,eo83⟩:=Kd.R_slice HO_10.out;(first|subst eo83|(injection eo83 with f1_ f2_ f3_;have f4_:=f1_.symm;have f5_:=f3_.symm;clear f1_ f2_ f3_;subst f4_;subst f5_));refine hK.out _ _ ⟨(blk_cell BK1001.out 0).trans rfl,(blk_cell BK1001.out 1).trans rfl,(blk_cell BK1001.out 2).trans rfl,(blk_cell BK1001.out 3).trans rfl,(blk_cell BK1001.out 4).trans rfl,(blk_cell BK1001.out 5).trans rfl,(blk_cell BK1001.out 6).trans rfl,(blk_cell BK1035.out 0).trans rfl,(blk_cell BK1035.out 1).trans rfl⟩ (fun hHeld => ?_);clear hK K;refine norm_ (a':=?_) ?_ ?_;rotate_left
                ·show Act.put _ (some 113) _ = _;simp only [Act.put,List.setIfInBounds_toArray,List.set_cons_zero,List.set_cons_succ,i64_w,i32_w];rfl
                refine one_ (i:=7) (N:=some 116) (bz 9 255) rfl rfl (one_of HT_.out (by kernel_rfl)) (by decide) (fun K hK => ?_);refine goes_ Tryz.func66 (by kernel_rfl) rfl #[.slice Ao83 x10_3.length co83,.string t1040,.string ((rd_T53 l0 x96_3).f1)] (by rfl) rfl rfl ag_ ?_;(with_reducible refine (impl_with.calls k3 _ _ x10_3 t1040 ((rd_T53 l0 x96_3).f1) t1041 _ ?side1 ?side2 A74.out).mono ?_);(case side1 => exact cc_ (Kd.R_reads' HO_10.out).2.2);(case side2 => exact (Kd.R_reads' HO_10.out).2.1);rintro e w84 ⟨v1042,rfl,ho0,hb⟩;refine ⟨_,rfl,?_⟩;have n0_:=am_ (Kd.R_elder' (ro_ HO_10) (Kd.R_base ho0) hb);have n1_:=am_ (Kd.R_below (ro_ HO1039) hb);have n2_:=am_ (Kd.R_lower (Kd.R_newB (Kd.R_new' ho0 (Kd.R_lt (ro_ HO_10))) (g:=gb1035) (o:=.cells #[.string ((rd_T53 l0 x96_3).f0),.string ((rd_T53 l0 x96_3).f1)] 53 (0,0)) (vk_ BK1035)) (below_size bg_));have n3_:=am_ (blk_below (g:=gb1001) (vk_ BK1001) hb);have n4_:=am_ (blk_below (g:=gb1035) (vk_ BK1035) hb);have n5_:=am_ (below_step bg_ hb);clear HO_10;clear HO1039;clear BK1001;clear BK1035;clear HB;have HO_10:=n0_;have HO1039:=n1_;have HO1043:=n2_;have BK1001:=n3_;have BK1035:=n4_;have HB:=n5_;clear n0_ n1_ n2_ n3_ n4_ n5_;(try clear hb);(try clear hb2);(try clear hk);(try clear hi);(try clear ho0);refine hK.out _ _ ⟨(blk_cell BK1001.out 0).trans rfl,(blk_cell BK1001.out 1).trans rfl,(blk_cell BK1001.out 2).trans rfl,(blk_cell BK1001.out 3).trans rfl,(blk_cell BK1001.out 4).trans rfl,(blk_cell BK1001.out 5).trans rfl,(blk_cell BK1001.out 6).trans rfl,(blk_cell BK1035.out 0).trans rfl,(blk_cell BK1035.out 1).trans rfl⟩ (fun hHeld => ?_);clear hK K;refine norm_ (a':=?_) ?_ ?_;rotate_left
                ·show Act.put _ (some 116) _ = _;simp only [Act.put,List.setIfInBounds_toArray,List.set_cons_zero,List.set_cons_succ,i64_w,i32_w];rfl
                refine pz_ 8 10 511 ?_;refine done_ (done_of HT_.out (by kernel_rfl)) ?_;(try go_wp2);go_roundg k3
                case measure => have:=HK1.out;have:=HJ14.out;have:=HK3.out;omega
                case rel => exact ⟨(t1041),(wrap64 (x96_3 + 1)),rs_,H',⟨by have:=HK1.out;have:=HJ14.out;have:=HK3.out;omega⟩,⟨by (with_reducible repeat (first|apply Kd.R_alloc|apply Kd.R_drewN|apply Kd.R_drew));exact Kd.R_mono HO1043.out (fun _ hk => trivial)⟩,⟨vk_ BK1001⟩,⟨bg_⟩⟩
               ·replace c72:=Bool.eq_false_iff.mpr c72;subst c72;replace H:=if_ H;have H':=am_ H;clear H;have p1034 : 0 ≤ (x96_3 : Int):=od_;have q1034 : x96_3 < (l0.length : Int):=od_;obtain ⟨ad1034,e1034,hx1034_0,hx1034_1⟩:=at_T53 HR0.out x96_3 p1034 q1034
                cases e1034
                replace hx1034_0:=kp_ HB hx1034_0;replace hx1034_1:=kp_ HB hx1034_1;replace p1034:=eq_true p1034;replace q1034:=eq_true q1034;go_wp2_with (first|((with_reducible refine gate_dst (N:=14) rfl ?_);refine bx_ 14 #[.string (⟨#[]⟩ : ByteArray),.string (⟨#[]⟩ : ByteArray)] 53 ?_;intro gb1035 hg w85 hbox hb;have BK1035:=am_ (hbox);have GW1035:=am_ (gg_ hg : w.heap.size ≤ gb1035);have NB1001_1035:=nl_ BK1001 hg;have NB1035_1001:=nr_ BK1001 hg;replace HO_10:=am_ (Kd.R_below (Kd.R_elderB (ro_ HO_10) gb1035 (Nat.le_of_eq hg.symm)) hb);replace BK1001:=vb_ BK1001 hb;replace HB:=am_ (below_step bg_ hb);have GE1035:=GW1035;clear hb hbox hg;have hnb86:=NB1035_1001.out;have hnc86:=NB1001_1035.out;have hz87:=bk2_ BK1035;have hz88:=bk7_ BK1001)|((with_reducible refine gate_callee (f:=65) rfl ?_);refine gl_ 105 Tryz.func65 #[.string a1_3,.string ((rd_T53 l0 x96_3).f0)] ?_;(with_reducible refine (impl_PatternParts.calls k3 a1_3 ((rd_T53 l0 x96_3).f0) t1036 false _ A71.out).mono ?_);rintro e w89 ⟨v1038,rfl,ho0,hb⟩;refine ⟨_,rfl,?_⟩;have HO1039:=am_ (Kd.R_lower ho0 (below_size bg_));replace HO_10:=am_ (Kd.R_below (by (with_reducible repeat (first|apply Kd.R_alloc|apply Kd.R_drewN|apply Kd.R_drew));exact (Kd.R_mono (Kd.R_far (p:=⟨gb1035,1,none⟩) (Kd.R_far (p:=⟨gb1035,0,none⟩) (Kd.R_mono HO_10.out (fun k_ hk => (⟨hk,hk.2⟩ : _ ∧ k_ ≠ gb1035))) (fun _ hk => hk.2) (.string ((rd_T53 l0 x96_3).f0))) (fun _ hk => hk.2) (.string ((rd_T53 l0 x96_3).f1))) (fun _ h_ => h_.1))) hb);replace BK1001:=am_ (blk_below (g:=gb1001) (o:=.cells #[.int .i64 a1_0,.slice A1_1 l1_1.length c1_1,.string a1_2,.string a1_3,.string a1_4,.string a1_5,.int .i64 a1_6] 32 (0,0)) (vf_ BK1001) hb);replace BK1035:=am_ (blk_below (g:=gb1035) (o:=.cells #[.string ((rd_T53 l0 x96_3).f0),.string ((rd_T53 l0 x96_3).f1)] 53 (0,0)) (by (with_reducible repeat (first|refine blk_drewN ?_ _|refine blk_drew ?_|refine blk_alloc ?_ _));refine blk_put (cs:=#[.string ((rd_T53 l0 x96_3).f0),.string (⟨#[]⟩ : ByteArray)]) ?_ 1 _ rfl;(with_reducible repeat (first|refine blk_drewN ?_ _|refine blk_drew ?_|refine blk_alloc ?_ _));refine blk_put (cs:=#[.string (⟨#[]⟩ : ByteArray),.string (⟨#[]⟩ : ByteArray)]) ?_ 0 _ rfl;(with_reducible repeat (first|refine blk_drewN ?_ _|refine blk_drew ?_|refine blk_alloc ?_ _));exact BK1035.out) hb);replace HB:=am_ (below_step bg_ hb);(try clear hb);(try clear ho0)));go_roundg k3
                case measure => have:=HK1.out;have:=HJ14.out;have:=HK3.out;omega
                case rel => exact ⟨(x10_3),(wrap64 (x96_3 + 1)),rs_,H',⟨by have:=HK1.out;have:=HJ14.out;have:=HK3.out;omega⟩,⟨by (with_reducible repeat (first|apply Kd.R_alloc|apply Kd.R_drewN|apply Kd.R_drew));exact Kd.R_mono HO_10.out (fun _ hk => trivial)⟩,⟨vk_ BK1001⟩,⟨bg_⟩⟩
              ·rw [if_neg c68] at H;have c68b0:=decide_eq_false c68;clear c68;replace H:=Option.bind_eq_some_iff.mp H;obtain ⟨t1033,A900,H⟩:=H;replace H : (some (x10_3,t1033)) = some (r1,r2):=H;have A90:=am_ A900;clear A900;simp only [Option.some.injEq,Prod.mk.injEq] at H;obtain ⟨rfl,rfl⟩:=H;obtain ⟨Ao91,co91,eo91⟩:=Kd.R_slice HO_10.out;subst eo91;go_wp2_with (first|((with_reducible refine gate_callee (f:=29) rfl ?_);refine gl_ 130 Tryz.func29 #[.slice Ao91 x10_3.length co91] ?_;(with_reducible refine (impl_GoodLabels.calls k3 _ _ x10_3 t1033 _ ?side1 ?side2 A90.out).mono ?_);(case side1 => exact cc_ (Kd.R_reads' HO_10.out).2.2);(case side2 => exact (Kd.R_reads' HO_10.out).2.1);rintro e w92 ⟨rfl,hb⟩;refine ⟨_,rfl,?_⟩;replace HO_10:=am_ (Kd.R_below (ro_ HO_10) hb);replace BK1001:=vb_ BK1001 hb;replace HB:=am_ (below_step bg_ hb);(try clear hb)));go_ret2;exact ⟨_,rf_,by (with_reducible repeat (first|apply Kd.R_alloc|apply Kd.R_drewN|apply Kd.R_drew));exact HO_10.out,bg_⟩
           ·rw [if_neg c66] at H;have c66b0:=nb_ c66;have c66b1:=nn_ c66
            by_cases c93 : a1_0 = 6
            ·rw [if_pos c93] at H;have c93b0:=eb_ c93;have c93b1:=en_ c93;clear c93;replace H:=Option.bind_eq_some_iff.mp H;obtain ⟨t1044,A940,H⟩:=H;replace H : ((impl_GoodLabels.f kj14 t1044).bind fun t1047 => (some (t1044,t1047))) = some (r1,r2):=H;have A94:=am_ A940;clear A940;replace H:=Option.bind_eq_some_iff.mp H;obtain ⟨t1047,A950,H⟩:=H;replace H : (some (t1044,t1047)) = some (r1,r2):=H;have A95:=am_ A950;clear A950;simp only [Option.some.injEq,Prod.mk.injEq] at H;obtain ⟨rfl,rfl⟩:=H;have hz96:=bk7_ BK1001;go_wp2_with (first|((go_at_call 71);(with_reducible refine (impl_Label_71.calls kj14 (fun x => impl_PatternFits.f kj14 a1_3 x.f0) 72 #[.pointer (some ⟨gb1001,0,none⟩)] (fun args w => enters_ Tryz.func72 (by kernel_rfl) rfl args w) A0 c0 l0 t1044 _ ?side1 ?side2 ?side3 A94.out).mono ?_);(case side1 => exact cc_ (Kd.C_below HR0.out HB.out));(case side2 => exact HC0.out);(case side3 => intro W x b_ hW hx;exact impl_relabel_1.calls kj14 x gb1001 a1_3 b_ W (kp_ ⟨hW⟩ ((blk_cell (vk_ BK1001) 3).trans rfl)) hx);rintro e w97 ⟨v1045,rfl,ho0,hb⟩;have HO1046:=am_ (Kd.R_lower (Kd.R_new' ho0 (Kd.R_lt (ro_ HO_10))) (below_size bg_));replace HO_10:=am_ (Kd.R_elder' (ro_ HO_10) (Kd.R_base ho0) hb);replace HO_11:=am_ (Kd.R_below (ro_ HO_11) hb);replace BK1001:=vb_ BK1001 hb;replace HB:=am_ (below_step bg_ hb);(try clear hb);(try clear ho0);obtain ⟨Ao98,co98,eo98⟩:=Kd.R_slice HO1046.out;subst eo98)|((with_reducible refine gate_callee (f:=29) rfl ?_);refine gl_ 130 Tryz.func29 #[.slice Ao98 t1044.length co98] ?_;(with_reducible refine (impl_GoodLabels.calls kj14 _ _ t1044 t1047 _ ?side1 ?side2 A95.out).mono ?_);(case side1 => exact cc_ (Kd.R_reads' HO1046.out).2.2);(case side2 => exact (Kd.R_reads' HO1046.out).2.1);rintro e w99 ⟨rfl,hb⟩;refine ⟨_,rfl,?_⟩;replace HO_10:=am_ (Kd.R_below (ro_ HO_10) hb);replace HO_11:=am_ (Kd.R_below (ro_ HO_11) hb);replace HO1046:=am_ (Kd.R_below (ro_ HO1046) hb);replace BK1001:=vb_ BK1001 hb;replace HB:=am_ (below_step bg_ hb);(try clear hb)));go_ret2;exact ⟨_,rf_,by (with_reducible repeat (first|apply Kd.R_alloc|apply Kd.R_drewN|apply Kd.R_drew));exact Kd.R_mono HO1046.out (fun _ hk => trivial),bg_⟩
            ·rw [if_neg c93] at H;have c93b0:=nb_ c93;have c93b1:=nn_ c93
             by_cases c100 : a1_0 = 7
             ·rw [if_pos c100] at H;have c100b0:=eb_ c100;have c100b1:=en_ c100;clear c100;replace H:=Option.bind_eq_some_iff.mp H;obtain ⟨t1048,A1010,H⟩:=H;replace H : ((impl_GoodLabels.f kj14 t1048).bind fun t1051 => (some (t1048,t1051))) = some (r1,r2):=H;have A101:=am_ A1010;clear A1010;replace H:=Option.bind_eq_some_iff.mp H;obtain ⟨t1051,A1020,H⟩:=H;replace H : (some (t1048,t1051)) = some (r1,r2):=H;have A102:=am_ A1020;clear A1020;simp only [Option.some.injEq,Prod.mk.injEq] at H;obtain ⟨rfl,rfl⟩:=H;have hz103:=bk7_ BK1001;go_wp2_with (first|((go_at_call 71);(with_reducible refine (impl_Label_71.calls kj14 (fun x => (impl_PatternFits.f kj14 a1_3 x.f0).bind fun b_ => some (!b_)) 74 #[.pointer (some ⟨gb1001,0,none⟩)] (fun args w => enters_ Tryz.func74 (by kernel_rfl) rfl args w) A0 c0 l0 t1048 _ ?side1 ?side2 ?side3 A101.out).mono ?_);(case side1 => exact cc_ (Kd.C_below HR0.out HB.out));(case side2 => exact HC0.out);(case side3 => intro W x b_ hW hx;exact impl_relabel_2.calls kj14 x gb1001 a1_3 b_ W (kp_ ⟨hW⟩ ((blk_cell (vk_ BK1001) 3).trans rfl)) hx);rintro e w104 ⟨v1049,rfl,ho0,hb⟩;have HO1050:=am_ (Kd.R_lower (Kd.R_new' ho0 (Kd.R_lt (ro_ HO_10))) (below_size bg_));replace HO_10:=am_ (Kd.R_elder' (ro_ HO_10) (Kd.R_base ho0) hb);replace HO_11:=am_ (Kd.R_below (ro_ HO_11) hb);replace BK1001:=vb_ BK1001 hb;replace HB:=am_ (below_step bg_ hb);(try clear hb);(try clear ho0);obtain ⟨Ao105,co105,eo105⟩:=Kd.R_slice HO1050.out;subst eo105)|((with_reducible refine gate_callee (f:=29) rfl ?_);refine gl_ 130 Tryz.func29 #[.slice Ao105 t1048.length co105] ?_;(with_reducible refine (impl_GoodLabels.calls kj14 _ _ t1048 t1051 _ ?side1 ?side2 A102.out).mono ?_);(case side1 => exact cc_ (Kd.R_reads' HO1050.out).2.2);(case side2 => exact (Kd.R_reads' HO1050.out).2.1);rintro e w106 ⟨rfl,hb⟩;refine ⟨_,rfl,?_⟩;replace HO_10:=am_ (Kd.R_below (ro_ HO_10) hb);replace HO_11:=am_ (Kd.R_below (ro_ HO_11) hb);replace HO1050:=am_ (Kd.R_below (ro_ HO1050) hb);replace BK1001:=vb_ BK1001 hb;replace HB:=am_ (below_step bg_ hb);(try clear hb)));go_ret2;exact ⟨_,rf_,by (with_reducible repeat (first|apply Kd.R_alloc|apply Kd.R_drewN|apply Kd.R_drew));exact Kd.R_mono HO1050.out (fun _ hk => trivial),bg_⟩
             ·rw [if_neg c100] at H;have c100b0:=nb_ c100;have c100b1:=nn_ c100;replace H:=Option.bind_eq_some_iff.mp H;obtain ⟨t1052,A1070,H⟩:=H;replace H : (some (t1008,t1052)) = some (r1,r2):=H;have A107:=am_ A1070;clear A1070;simp only [Option.some.injEq,Prod.mk.injEq] at H;obtain ⟨rfl,rfl⟩:=H;have hz108:=bk7_ BK1001;obtain ⟨Ao109,co109,eo109⟩:=Kd.R_slice HO_10.out;subst eo109;go_wp2_with (first|((with_reducible refine gate_callee (f:=29) rfl ?_);refine gl_ 130 Tryz.func29 #[.slice Ao109 t1008.length co109] ?_;(with_reducible refine (impl_GoodLabels.calls kj14 _ _ t1008 t1052 _ ?side1 ?side2 A107.out).mono ?_);(case side1 => exact cc_ (Kd.R_reads' HO_10.out).2.2);(case side2 => exact (Kd.R_reads' HO_10.out).2.1);rintro e w110 ⟨rfl,hb⟩;refine ⟨_,rfl,?_⟩;replace HO_10:=am_ (Kd.R_below (ro_ HO_10) hb);replace HO_11:=am_ (Kd.R_below (ro_ HO_11) hb);replace BK1001:=vb_ BK1001 hb;replace HB:=am_ (below_step bg_ hb);(try clear hb)));go_ret2;exact ⟨_,rf_,by (with_reducible repeat (first|apply Kd.R_alloc|apply Kd.R_drewN|apply Kd.R_drew));exact HO_10.out,bg_⟩
end Go.Proofs.YtacaelfdmlegdaaGreatDoor.Pr
