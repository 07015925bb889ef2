/- Functions of the given program as plain Lean functions, and that the machine's calls come to them; written by a program of this session; no condition but those that each theorem states. -/
import Derived.Test.YtnnlgbpfdnaalaaPrx0
import Derived.Test.YtnnlgbpfdnaalaaPrxg1267dn1
import Derived.Test.YtnnlgbpfdnaalaaPrxg1267dn2
import Derived.Test.YtnnlgbpfdnaalaaPrxg1267dn3
import Derived.Test.YtnnlgbpfdnaalaaPrxgd406dn1
namespace Go.Proofs.Ytnnlgbpfdnaalaa.Pr
open Go.RowKit Go.Proofs.YtnnlgbpfdnaalaaW.PrintWords Go.Proofs.YtnnlgbpfdnaalaaW.PrintLast Go.Proofs.YtnnlgbpfdnaalaaW.PrintMore
attribute [local go_sem] max2_int min2_int max_two min_two max_three min_three max_four min_four   -- for this text's walks alone
set_option linter.unusedVariables false
set_option linter.unusedSimpArgs false

/-! ### laws_szRelabelS: function 94 -/
def laws_szRelabelS.l0 : Nat → List (S39) → Int → Int → Option (Int)
 | 0, _, _, _ => none
 | k + 1, x0, x1, x5 => if x5 < (x0.length : Int) then (if 0 ≤ x5 then ((laws_szRelabel.f k ((rd_T39 x0 x5).f0) ((rd_T39 x0 x5).f1) ((rd_T39 x0 x5).f2) ((rd_T39 x0 x5).f3) ((rd_T39 x0 x5).f4) ((rd_T39 x0 x5).f5) ((rd_T39 x0 x5).f6) x1).bind fun t1002 => (if t1002 < 0 then (some (-1)) else (laws_szRelabelS.l0 k x0 t1002 (wrap64 (x5 + 1))))) else (none)) else (some x1)
def laws_szRelabelS.f (k : Nat) (l0 : List (S39)) (a1 : Int) : Option (Int) := if (wrap64 (a1 - (l0.length : Int))) < 0 then (some (-1)) else (laws_szRelabelS.l0 k l0 (wrap64 (a1 - (l0.length : Int))) 0)
theorem laws_szRelabelS.mono_l : ∀ k, (∀ y0 y1 y2, LeO (laws_szRelabelS.l0 k y0 y1 y2) (laws_szRelabelS.l0 (k + 1) y0 y1 y2))
 | 0 => fun _ _ _ r h => by simp [laws_szRelabelS.l0] at h
 | k + 1 => by
  have ih0 := laws_szRelabelS.mono_l k
  ·intro y0 y1 y2
   unfold laws_szRelabelS.l0
   repeat' first
   | with_reducible first | exact ih0 _ _ _ | exact laws_szRelabel.mono _ _ _ _ _ _ _ _ _ | exact LeO.refl _ | exact LeO.none _ | refine LeO.ite ?_ ?_ | refine LeO.bind ?_ (fun _ => ?_)
   | exact ih0 _ _ _
   | exact laws_szRelabel.mono _ _ _ _ _ _ _ _ _
   | exact LeO.none _
   | refine LeO.ite ?_ ?_
   | refine LeO.bind ?_ (fun _ => ?_)
theorem laws_szRelabelS.mono : ∀ a0 a1 k, LeO (laws_szRelabelS.f k a0 a1) (laws_szRelabelS.f (k + 1) a0 a1) := by
 intro a0 a1 k
 have ih0 := laws_szRelabelS.mono_l k
 unfold laws_szRelabelS.f
 repeat' first
   | with_reducible first | exact ih0 _ _ _ | exact laws_szRelabel.mono _ _ _ _ _ _ _ _ _ | exact LeO.refl _ | exact LeO.none _ | refine LeO.ite ?_ ?_ | refine LeO.bind ?_ (fun _ => ?_)
   | exact ih0 _ _ _
   | exact laws_szRelabel.mono _ _ _ _ _ _ _ _ _
   | exact LeO.none _
   | refine LeO.ite ?_ ?_
   | refine LeO.bind ?_ (fun _ => ?_)
set_option maxHeartbeats 8000000 in
set_option maxRecDepth 100000 in
theorem laws_szRelabelS.calls (k : Nat) (A0 : Option Addr) (c0 : Nat) (l0 : List (S39)) (a1 : Int) (r : Int) (w : World) (hr0 : Kd.C k39 w A0 l0.length l0) (hc0 : l0.length ≤ c0) (h : laws_szRelabelS.f k l0 a1 = some r) :
  Calls Try.prog 94 #[.slice A0 l0.length c0, .int .i64 a1] w fun e w' => e = .returned (.int .i64 r) ∧ Below w.heap.size w w' := by
 have hu39 := Try.underlying39
 have HR0 := am_ hr0
 have HC0 := am_ hc0
 clear hr0 hc0
 have HB := am_ (Below.refl w.heap.size w)
 have H : (if (wrap64 (a1 - (l0.length : Int))) < 0 then (some (-1)) else (laws_szRelabelS.l0 k l0 (wrap64 (a1 - (l0.length : Int))) 0)) = some r := h
 clear h
 by_cases c3 : (wrap64 (a1 - (l0.length : Int))) < 0
 ·rw [if_pos c3] at H
  have c3b0 : decide ((wrap64 (a1 - (l0.length : Int))) < 0) = true := decide_eq_true c3
  clear c3
  obtain rfl := Option.some.inj H
  go_enter Try.func94, Try.ntmps94
  go_wp2
  go_ret
  exact ⟨rf_, bl_⟩
 ·rw [if_neg c3] at H
  have c3b0 : decide ((wrap64 (a1 - (l0.length : Int))) < 0) = false := decide_eq_false c3
  clear c3
  have H' := am_ H
  clear H
  go_enter Try.func94, Try.ntmps94
  go_wp2
  go_loopg [1, 5] k (fun kq v1 v5 w' => ∃ (x1_1 : Int) (x5_1 : Int), v1 = .int .i64 x1_1 ∧ v5 = .int .i64 x5_1 ∧ Aside0 (laws_szRelabelS.l0 kq l0 x1_1 x5_1 = some r) ∧ Aside0 (kq ≤ k) ∧ Aside0 (Below w.heap.size w w'))
  case atStart => exact ⟨(wrap64 (a1 - (l0.length : Int))), (0), rs_, rs_, H', ⟨Nat.le_refl _⟩, ⟨bl_⟩⟩
  case round =>
   clear H'
   try clear p2
   try clear c3
   try clear c3b0
   obtain ⟨x1_1, x5_1, rfl, rfl, HA, HK1, HB⟩ := hrel
   cases gk with
   | zero => exact absurd HA.out (by simp [laws_szRelabelS.l0])
   | succ k1 =>
    have H := HA.out
    clear HA
    simp only [laws_szRelabelS.l0] at H
    by_cases c4 : x5_1 < (l0.length : Int)
    ·rw [if_pos c4] at H
     have c4b0 : decide (x5_1 < (l0.length : Int)) = true := decide_eq_true c4
     clear c4
     by_cases c5 : 0 ≤ x5_1
     ·rw [if_pos c5] at H
      have c5b0 : decide (0 ≤ x5_1) = true := decide_eq_true c5
      clear c5
      replace H := Option.bind_eq_some_iff.mp H
      obtain ⟨t1002, A60, H⟩ := H
      replace H : (if t1002 < 0 then (some (-1)) else (laws_szRelabelS.l0 k1 l0 t1002 (wrap64 (x5_1 + 1)))) = some r := H
      have A6 := am_ A60
      clear A60
      by_cases c7 : t1002 < 0
      ·rw [if_pos c7] at H
       have c7b0 : decide (t1002 < 0) = true := decide_eq_true c7
       clear c7
       obtain rfl := Option.some.inj H
       have p1001 : 0 ≤ (x5_1 : Int) := od_
       have q1001 : x5_1 < (l0.length : Int) := od_
       obtain ⟨ad1001, A1001_1, c1001_1, e1001, hx1001_0, hx1001_1, hx1001_2, hx1001_3, hx1001_4, hx1001_5, hx1001_6, hl1001_1, hi1001_1⟩ := at_T39 HR0.out x5_1 p1001 q1001
       cases e1001
       replace hx1001_0 := kp_ HB hx1001_0
       replace hx1001_1 := kp_ HB hx1001_1
       replace hx1001_2 := kp_ HB hx1001_2
       replace hx1001_3 := kp_ HB hx1001_3
       replace hx1001_4 := kp_ HB hx1001_4
       replace hx1001_5 := kp_ HB hx1001_5
       replace hx1001_6 := kp_ HB hx1001_6
       have HR1001_1 := am_ hi1001_1
       have HC1001_1 := am_ hl1001_1
       clear hi1001_1 hl1001_1
       replace p1001 := eq_true p1001
       replace q1001 := eq_true q1001
       go_wp2_with (first | ((with_reducible refine gate_callee (f := 31) rfl ?_); refine goesL_ (some 23) rfl rfl Try.func31 (by kernel_rfl) rfl #[.agg #[.int .i64 ((rd_T39 l0 x5_1).f0), .slice A1001_1 ((rd_T39 l0 x5_1).f1).length c1001_1, .string ((rd_T39 l0 x5_1).f2), .string ((rd_T39 l0 x5_1).f3), .string ((rd_T39 l0 x5_1).f4), .string ((rd_T39 l0 x5_1).f5), .int .i64 ((rd_T39 l0 x5_1).f6)], .int .i64 x1_1] rfl ag_ ?_; (with_reducible refine (laws_szRelabel.calls k1 ((rd_T39 l0 x5_1).f0) _ _ ((rd_T39 l0 x5_1).f1) ((rd_T39 l0 x5_1).f2) ((rd_T39 l0 x5_1).f3) ((rd_T39 l0 x5_1).f4) ((rd_T39 l0 x5_1).f5) ((rd_T39 l0 x5_1).f6) x1_1 t1002 _ ?side1 ?side2 A6.out).mono ?_); (case side1 => exact cc_ (Kd.C_below HR1001_1.out HB.out)); (case side2 => exact HC1001_1.out); rintro e w8 ⟨rfl, hb⟩; refine ⟨_, rfl, ?_⟩; have n0_ := am_ (below_step bl_ hb); clear HB; have HB := n0_; clear n0_; (try clear hb); (try clear hb2); (try clear hk); (try clear hi)))
       go_ret
       exact ⟨rf_, bl_⟩
      ·rw [if_neg c7] at H
       have c7b0 : decide (t1002 < 0) = false := decide_eq_false c7
       clear c7
       have H' := am_ H
       clear H
       have p1001 : 0 ≤ (x5_1 : Int) := od_
       have q1001 : x5_1 < (l0.length : Int) := od_
       obtain ⟨ad1001, A1001_1, c1001_1, e1001, hx1001_0, hx1001_1, hx1001_2, hx1001_3, hx1001_4, hx1001_5, hx1001_6, hl1001_1, hi1001_1⟩ := at_T39 HR0.out x5_1 p1001 q1001
       cases e1001
       replace hx1001_0 := kp_ HB hx1001_0
       replace hx1001_1 := kp_ HB hx1001_1
       replace hx1001_2 := kp_ HB hx1001_2
       replace hx1001_3 := kp_ HB hx1001_3
       replace hx1001_4 := kp_ HB hx1001_4
       replace hx1001_5 := kp_ HB hx1001_5
       replace hx1001_6 := kp_ HB hx1001_6
       have HR1001_1 := am_ hi1001_1
       have HC1001_1 := am_ hl1001_1
       clear hi1001_1 hl1001_1
       replace p1001 := eq_true p1001
       replace q1001 := eq_true q1001
       go_wp2_with (first | ((with_reducible refine gate_callee (f := 31) rfl ?_); refine goesL_ (some 23) rfl rfl Try.func31 (by kernel_rfl) rfl #[.agg #[.int .i64 ((rd_T39 l0 x5_1).f0), .slice A1001_1 ((rd_T39 l0 x5_1).f1).length c1001_1, .string ((rd_T39 l0 x5_1).f2), .string ((rd_T39 l0 x5_1).f3), .string ((rd_T39 l0 x5_1).f4), .string ((rd_T39 l0 x5_1).f5), .int .i64 ((rd_T39 l0 x5_1).f6)], .int .i64 x1_1] rfl ag_ ?_; (with_reducible refine (laws_szRelabel.calls k1 ((rd_T39 l0 x5_1).f0) _ _ ((rd_T39 l0 x5_1).f1) ((rd_T39 l0 x5_1).f2) ((rd_T39 l0 x5_1).f3) ((rd_T39 l0 x5_1).f4) ((rd_T39 l0 x5_1).f5) ((rd_T39 l0 x5_1).f6) x1_1 t1002 _ ?side1 ?side2 A6.out).mono ?_); (case side1 => exact cc_ (Kd.C_below HR1001_1.out HB.out)); (case side2 => exact HC1001_1.out); rintro e w9 ⟨rfl, hb⟩; refine ⟨_, rfl, ?_⟩; have n0_ := am_ (below_step bl_ hb); clear HB; have HB := n0_; clear n0_; (try clear hb); (try clear hb2); (try clear hk); (try clear hi)))
       go_roundg k1
       case measure => have := HK1.out; omega
       case rel => exact ⟨(t1002), (wrap64 (x5_1 + 1)), rs_, rs_, H', ⟨by have := HK1.out; omega⟩, ⟨bl_⟩⟩
     ·rw [if_neg c5] at H
      exact absurd H (by simp)
    ·rw [if_neg c4] at H
     have c4b0 : decide (x5_1 < (l0.length : Int)) = false := decide_eq_false c4
     clear c4
     obtain rfl := Option.some.inj H
     go_wp2
     go_ret
     exact ⟨rf_, bl_⟩

/-! ### laws_szTarget: function 41 -/
def laws_szTarget.f (k : Nat) (l0_0 : List (S103)) (a0_1 : Int) (a0_2 : Int) (a0_3 : Bool) (l0_4 : List (S39)) (a1 : Int) : Option (Int) := (laws_szLabelS.f k l0_0 a1).bind fun t1002 => (if t1002 < 0 then (some (-1)) else ((laws_szRelabelS.f k l0_4 t1002).bind fun t1003 => (if t1003 < 0 then (some (-1)) else (some t1003))))
theorem laws_szTarget.mono : ∀ a0 a1 a2 a3 a4 a5 k, LeO (laws_szTarget.f k a0 a1 a2 a3 a4 a5) (laws_szTarget.f (k + 1) a0 a1 a2 a3 a4 a5) := by
 intro a0 a1 a2 a3 a4 a5 k
 unfold laws_szTarget.f
 repeat' first
   | with_reducible first | exact laws_szLabelS.mono _ _ _ | exact laws_szRelabelS.mono _ _ _ | exact LeO.refl _ | exact LeO.none _ | refine LeO.ite ?_ ?_ | refine LeO.bind ?_ (fun _ => ?_)
   | exact laws_szLabelS.mono _ _ _
   | exact laws_szRelabelS.mono _ _ _
   | exact LeO.none _
   | refine LeO.ite ?_ ?_
   | refine LeO.bind ?_ (fun _ => ?_)
set_option maxHeartbeats 8000000 in
set_option maxRecDepth 100000 in
theorem laws_szTarget.calls (k : Nat) (A0_0 : Option Addr) (c0_0 : Nat) (l0_0 : List (S103)) (a0_1 : Int) (a0_2 : Int) (a0_3 : Bool) (A0_4 : Option Addr) (c0_4 : Nat) (l0_4 : List (S39)) (a1 : Int) (r : Int) (w : World) (hr0_0 : Kd.C k103 w A0_0 l0_0.length l0_0) (hc0_0 : l0_0.length ≤ c0_0) (hr0_4 : Kd.C k39 w A0_4 l0_4.length l0_4) (hc0_4 : l0_4.length ≤ c0_4) (h : laws_szTarget.f k l0_0 a0_1 a0_2 a0_3 l0_4 a1 = some r) :
  Calls Try.prog 41 #[.agg #[.slice A0_0 l0_0.length c0_0, .int .i64 a0_1, .int .i64 a0_2, .bool a0_3, .slice A0_4 l0_4.length c0_4], .int .i64 a1] w fun e w' => e = .returned (.int .i64 r) ∧ Below w.heap.size w w' := by
 have hu55 := Try.underlying55
 have HR0_0 := am_ hr0_0
 have HC0_0 := am_ hc0_0
 clear hr0_0 hc0_0
 have HR0_4 := am_ hr0_4
 have HC0_4 := am_ hc0_4
 clear hr0_4 hc0_4
 have HB := am_ (Below.refl w.heap.size w)
 have H : ((laws_szLabelS.f k l0_0 a1).bind fun t1002 => (if t1002 < 0 then (some (-1)) else ((laws_szRelabelS.f k l0_4 t1002).bind fun t1003 => (if t1003 < 0 then (some (-1)) else (some t1003))))) = some r := h
 clear h
 replace H := Option.bind_eq_some_iff.mp H
 obtain ⟨t1002, A30, H⟩ := H
 replace H : (if t1002 < 0 then (some (-1)) else ((laws_szRelabelS.f k l0_4 t1002).bind fun t1003 => (if t1003 < 0 then (some (-1)) else (some t1003)))) = some r := H
 have A3 := am_ A30
 clear A30
 by_cases c4 : t1002 < 0
 ·rw [if_pos c4] at H
  have c4b0 : decide (t1002 < 0) = true := decide_eq_true c4
  clear c4
  obtain rfl := Option.some.inj H
  go_enter Try.func41, Try.ntmps41
  go_wp2_with (first | ((with_reducible refine gate_dst (N := 2) rfl ?_); refine box_event ?hg (N := 2) ?hd (cs := #[.slice A0_0 l0_0.length c0_0, .int .i64 a0_1, .int .i64 a0_2, .bool a0_3, .slice A0_4 l0_4.length c0_4]) (t := 55) ?hr ?_; (case hd => rfl); (case hg => rfl); (case hr => first | (go_simp; done) | (go_simp; rfl)); intro gb1001 hg w5 hbox hb; have n0_ := am_ (below_step bl_ hb); have n1_ := am_ (hbox); have n2_ := am_ (gs_ hg : w.heap.size ≤ gb1001); have n3_ := n2_; clear HB; have HB := n0_; have BK1001 := n1_; have GW1001 := n2_; have GE1001 := n3_; clear n0_ n1_ n2_ n3_; clear hb hbox hg; have hcz6_0 := bc5_0 BK1001; have hcz6_1 := bc5_1 BK1001; have hcz6_2 := bc5_2 BK1001; have hcz6_3 := bc5_3 BK1001; have hcz6_4 := bc5_4 BK1001; have hfz6_0 := bf_ BK1001 0; have hfz6_1 := bf_ BK1001 1; have hfz6_2 := bf_ BK1001 2; have hfz6_3 := bf_ BK1001 3; have hfz6_4 := bf_ BK1001 4) | ((with_reducible refine gate_callee (f := 36) rfl ?_); refine goesL_ (some 8) rfl rfl Try.func36 (by kernel_rfl) rfl #[.slice A0_0 l0_0.length c0_0, .int .i64 a1] rfl ag_ ?_; (with_reducible refine (laws_szLabelS.calls k _ _ l0_0 a1 t1002 _ ?side1 ?side2 A3.out).mono ?_); (case side1 => exact cc_ (Kd.C_below HR0_0.out HB.out)); (case side2 => exact HC0_0.out); rintro e w7 ⟨rfl, hb⟩; refine ⟨_, rfl, ?_⟩; have n0_ := am_ (blk_below (g := gb1001) (vk_ BK1001) hb); have n1_ := am_ (below_step bg_ hb); clear BK1001; clear HB; have BK1001 := n0_; have HB := n1_; clear n0_ n1_; (try clear hb); (try clear hb2); (try clear hk); (try clear hi)))
  go_ret
  exact ⟨rf_, bg_⟩
 ·rw [if_neg c4] at H
  have c4b0 : decide (t1002 < 0) = false := decide_eq_false c4
  clear c4
  replace H := Option.bind_eq_some_iff.mp H
  obtain ⟨t1003, A80, H⟩ := H
  replace H : (if t1003 < 0 then (some (-1)) else (some t1003)) = some r := H
  have A8 := am_ A80
  clear A80
  by_cases c9 : t1003 < 0
  ·rw [if_pos c9] at H
   have c9b0 : decide (t1003 < 0) = true := decide_eq_true c9
   clear c9
   obtain rfl := Option.some.inj H
   go_enter Try.func41, Try.ntmps41
   go_wp2_with (first | ((with_reducible refine gate_dst (N := 2) rfl ?_); refine box_event ?hg (N := 2) ?hd (cs := #[.slice A0_0 l0_0.length c0_0, .int .i64 a0_1, .int .i64 a0_2, .bool a0_3, .slice A0_4 l0_4.length c0_4]) (t := 55) ?hr ?_; (case hd => rfl); (case hg => rfl); (case hr => first | (go_simp; done) | (go_simp; rfl)); intro gb1001 hg w10 hbox hb; have n0_ := am_ (below_step bl_ hb); have n1_ := am_ (hbox); have n2_ := am_ (gs_ hg : w.heap.size ≤ gb1001); have n3_ := n2_; clear HB; have HB := n0_; have BK1001 := n1_; have GW1001 := n2_; have GE1001 := n3_; clear n0_ n1_ n2_ n3_; clear hb hbox hg; have hcz11_0 := bc5_0 BK1001; have hcz11_1 := bc5_1 BK1001; have hcz11_2 := bc5_2 BK1001; have hcz11_3 := bc5_3 BK1001; have hcz11_4 := bc5_4 BK1001; have hfz11_0 := bf_ BK1001 0; have hfz11_1 := bf_ BK1001 1; have hfz11_2 := bf_ BK1001 2; have hfz11_3 := bf_ BK1001 3; have hfz11_4 := bf_ BK1001 4) | ((with_reducible refine gate_callee (f := 36) rfl ?_); refine goesL_ (some 8) rfl rfl Try.func36 (by kernel_rfl) rfl #[.slice A0_0 l0_0.length c0_0, .int .i64 a1] rfl ag_ ?_; (with_reducible refine (laws_szLabelS.calls k _ _ l0_0 a1 t1002 _ ?side1 ?side2 A3.out).mono ?_); (case side1 => exact cc_ (Kd.C_below HR0_0.out HB.out)); (case side2 => exact HC0_0.out); rintro e w12 ⟨rfl, hb⟩; refine ⟨_, rfl, ?_⟩; have n0_ := am_ (blk_below (g := gb1001) (vk_ BK1001) hb); have n1_ := am_ (below_step bg_ hb); clear BK1001; clear HB; have BK1001 := n0_; have HB := n1_; clear n0_ n1_; (try clear hb); (try clear hb2); (try clear hk); (try clear hi); have hcz13_0 := bc5_0 BK1001; have hcz13_1 := bc5_1 BK1001; have hcz13_2 := bc5_2 BK1001; have hcz13_3 := bc5_3 BK1001; have hcz13_4 := bc5_4 BK1001; have hfz13_0 := bf_ BK1001 0; have hfz13_1 := bf_ BK1001 1; have hfz13_2 := bf_ BK1001 2; have hfz13_3 := bf_ BK1001 3; have hfz13_4 := bf_ BK1001 4) | ((with_reducible refine gate_callee (f := 94) rfl ?_); refine goesL_ (some 14) rfl rfl Try.func94 (by kernel_rfl) rfl #[.slice A0_4 l0_4.length c0_4, .int .i64 t1002] rfl ag_ ?_; (with_reducible refine (laws_szRelabelS.calls k _ _ l0_4 t1002 t1003 _ ?side1 ?side2 A8.out).mono ?_); (case side1 => exact cc_ (Kd.C_below HR0_4.out HB.out)); (case side2 => exact HC0_4.out); rintro e w14 ⟨rfl, hb⟩; refine ⟨_, rfl, ?_⟩; have n0_ := am_ (blk_below (g := gb1001) (vk_ BK1001) hb); have n1_ := am_ (below_step bg_ hb); clear BK1001; clear HB; have BK1001 := n0_; have HB := n1_; clear n0_ n1_; (try clear hb); (try clear hb2); (try clear hk); (try clear hi)))
   go_ret
   exact ⟨rf_, bg_⟩
  ·rw [if_neg c9] at H
   have c9b0 : decide (t1003 < 0) = false := decide_eq_false c9
   clear c9
   obtain rfl := Option.some.inj H
   go_enter Try.func41, Try.ntmps41
   go_wp2_with (first | ((with_reducible refine gate_dst (N := 2) rfl ?_); refine box_event ?hg (N := 2) ?hd (cs := #[.slice A0_0 l0_0.length c0_0, .int .i64 a0_1, .int .i64 a0_2, .bool a0_3, .slice A0_4 l0_4.length c0_4]) (t := 55) ?hr ?_; (case hd => rfl); (case hg => rfl); (case hr => first | (go_simp; done) | (go_simp; rfl)); intro gb1001 hg w15 hbox hb; have n0_ := am_ (below_step bl_ hb); have n1_ := am_ (hbox); have n2_ := am_ (gs_ hg : w.heap.size ≤ gb1001); have n3_ := n2_; clear HB; have HB := n0_; have BK1001 := n1_; have GW1001 := n2_; have GE1001 := n3_; clear n0_ n1_ n2_ n3_; clear hb hbox hg; have hcz16_0 := bc5_0 BK1001; have hcz16_1 := bc5_1 BK1001; have hcz16_2 := bc5_2 BK1001; have hcz16_3 := bc5_3 BK1001; have hcz16_4 := bc5_4 BK1001; have hfz16_0 := bf_ BK1001 0; have hfz16_1 := bf_ BK1001 1; have hfz16_2 := bf_ BK1001 2; have hfz16_3 := bf_ BK1001 3; have hfz16_4 := bf_ BK1001 4) | ((with_reducible refine gate_callee (f := 36) rfl ?_); refine goesL_ (some 8) rfl rfl Try.func36 (by kernel_rfl) rfl #[.slice A0_0 l0_0.length c0_0, .int .i64 a1] rfl ag_ ?_; (with_reducible refine (laws_szLabelS.calls k _ _ l0_0 a1 t1002 _ ?side1 ?side2 A3.out).mono ?_); (case side1 => exact cc_ (Kd.C_below HR0_0.out HB.out)); (case side2 => exact HC0_0.out); rintro e w17 ⟨rfl, hb⟩; refine ⟨_, rfl, ?_⟩; have n0_ := am_ (blk_below (g := gb1001) (vk_ BK1001) hb); have n1_ := am_ (below_step bg_ hb); clear BK1001; clear HB; have BK1001 := n0_; have HB := n1_; clear n0_ n1_; (try clear hb); (try clear hb2); (try clear hk); (try clear hi); have hcz18_0 := bc5_0 BK1001; have hcz18_1 := bc5_1 BK1001; have hcz18_2 := bc5_2 BK1001; have hcz18_3 := bc5_3 BK1001; have hcz18_4 := bc5_4 BK1001; have hfz18_0 := bf_ BK1001 0; have hfz18_1 := bf_ BK1001 1; have hfz18_2 := bf_ BK1001 2; have hfz18_3 := bf_ BK1001 3; have hfz18_4 := bf_ BK1001 4) | ((with_reducible refine gate_callee (f := 94) rfl ?_); refine goesL_ (some 14) rfl rfl Try.func94 (by kernel_rfl) rfl #[.slice A0_4 l0_4.length c0_4, .int .i64 t1002] rfl ag_ ?_; (with_reducible refine (laws_szRelabelS.calls k _ _ l0_4 t1002 t1003 _ ?side1 ?side2 A8.out).mono ?_); (case side1 => exact cc_ (Kd.C_below HR0_4.out HB.out)); (case side2 => exact HC0_4.out); rintro e w19 ⟨rfl, hb⟩; refine ⟨_, rfl, ?_⟩; have n0_ := am_ (blk_below (g := gb1001) (vk_ BK1001) hb); have n1_ := am_ (below_step bg_ hb); clear BK1001; clear HB; have BK1001 := n0_; have HB := n1_; clear n0_ n1_; (try clear hb); (try clear hb2); (try clear hk); (try clear hi)))
   go_ret
   exact ⟨rf_, bg_⟩

/-! ### spec_l5Bare: function 95 -/
def spec_l5Bare.f (k : Nat) (l0 : List (S105)) : Option (Bool) := (spec_GoodLabels.f k l0).bind fun t1001 => (if t1001 = true then (if (l0.length : Int) < 20 then ((spec_l2Of.f k l0 (⟨#[95, 110, 97, 109, 101]⟩ : ByteArray)).bind fun t1002 => (some (t1002.toList == ([] : List UInt8)))) else (some false)) else (some false))
theorem spec_l5Bare.mono : ∀ a0 k, LeO (spec_l5Bare.f k a0) (spec_l5Bare.f (k + 1) a0) := by
 intro a0 k
 unfold spec_l5Bare.f
 repeat' first
   | with_reducible first | exact spec_GoodLabels.mono _ _ | exact spec_l2Of.mono _ _ _ | exact LeO.refl _ | exact LeO.none _ | refine LeO.ite ?_ ?_ | refine LeO.bind ?_ (fun _ => ?_)
   | exact spec_GoodLabels.mono _ _
   | exact spec_l2Of.mono _ _ _
   | exact LeO.none _
   | refine LeO.ite ?_ ?_
   | refine LeO.bind ?_ (fun _ => ?_)
set_option maxHeartbeats 8000000 in
set_option maxRecDepth 100000 in
theorem spec_l5Bare.calls (k : Nat) (A0 : Option Addr) (c0 : Nat) (l0 : List (S105)) (r : Bool) (w : World) (hr0 : Kd.C k105 w A0 l0.length l0) (hc0 : l0.length ≤ c0) (h : spec_l5Bare.f k l0 = some r) :
  Calls Try.prog 95 #[.slice A0 l0.length c0] w fun e w' => e = .returned (.bool r) ∧ Below w.heap.size w w' := by
 have HR0 := am_ hr0
 have HC0 := am_ hc0
 clear hr0 hc0
 have HB := am_ (Below.refl w.heap.size w)
 have H : ((spec_GoodLabels.f k l0).bind fun t1001 => (if t1001 = true then (if (l0.length : Int) < 20 then ((spec_l2Of.f k l0 (⟨#[95, 110, 97, 109, 101]⟩ : ByteArray)).bind fun t1002 => (some (t1002.toList == ([] : List UInt8)))) else (some false)) else (some false))) = some r := h
 clear h
 replace H := Option.bind_eq_some_iff.mp H
 obtain ⟨t1001, A20, H⟩ := H
 replace H : (if t1001 = true then (if (l0.length : Int) < 20 then ((spec_l2Of.f k l0 (⟨#[95, 110, 97, 109, 101]⟩ : ByteArray)).bind fun t1002 => (some (t1002.toList == ([] : List UInt8)))) else (some false)) else (some false)) = some r := H
 have A2 := am_ A20
 clear A20
 by_cases c3 : t1001 = true
 ·subst c3
  have H1 : (if (l0.length : Int) < 20 then ((spec_l2Of.f k l0 (⟨#[95, 110, 97, 109, 101]⟩ : ByteArray)).bind fun t1002 => (some (t1002.toList == ([] : List UInt8)))) else (some false)) = some r := by rw [if_pos rfl] at H; exact H
  clear H
  have H := H1
  clear H1
  by_cases c4 : (l0.length : Int) < 20
  ·rw [if_pos c4] at H
   have c4b0 : decide ((l0.length : Int) < 20) = true := decide_eq_true c4
   have c4b1 : decide (l0.length < 20) = true := decide_eq_true (by omega)
   clear c4
   replace H := Option.bind_eq_some_iff.mp H
   obtain ⟨t1002, A50, H⟩ := H
   replace H : (some (t1002.toList == ([] : List UInt8))) = some r := H
   have A5 := am_ A50
   clear A50
   obtain rfl := Option.some.inj H
   go_enter Try.func95, Try.ntmps95
   go_wp2_with (first | ((with_reducible refine gate_callee (f := 88) rfl ?_); refine goesL_ (some 4) rfl rfl Try.func88 (by kernel_rfl) rfl #[.slice A0 l0.length c0] rfl ag_ ?_; (with_reducible refine (spec_GoodLabels.calls k _ _ l0 true _ ?side1 ?side2 A2.out).mono ?_); (case side1 => repeat (first | exact HR0.out | (with_reducible refine Kd.C_alloc ?_ _) | (with_reducible refine Kd.C_drewN ?_ _) | (with_reducible refine Kd.C_drew ?_))); (case side2 => exact HC0.out); rintro e w6 ⟨rfl, hb⟩; refine ⟨_, rfl, ?_⟩; have n0_ := am_ (below_step bl_ hb); clear HB; have HB := n0_; clear n0_; (try clear hb); (try clear hb2); (try clear hk); (try clear hi)) | (go_at_call 129; (with_reducible refine (spec_l2Of.calls k _ _ l0 (⟨#[95, 110, 97, 109, 101]⟩ : ByteArray) t1002 _ ?side1 ?side2 A5.out).mono ?_); (case side1 => exact cc_ (Kd.C_below HR0.out HB.out)); (case side2 => exact HC0.out); rintro e w7 ⟨rfl, hb⟩; have n0_ := am_ (below_step bl_ hb); clear HB; have HB := n0_; clear n0_; (try clear hb); (try clear hb2); (try clear hk); (try clear hi)))
   go_ret
   exact ⟨rf_, bl_⟩
  ·rw [if_neg c4] at H
   have c4b0 : decide ((l0.length : Int) < 20) = false := decide_eq_false c4
   have c4b1 : decide (l0.length < 20) = false := decide_eq_false (by omega)
   clear c4
   obtain rfl := Option.some.inj H
   go_enter Try.func95, Try.ntmps95
   go_wp2_with (first | ((with_reducible refine gate_callee (f := 88) rfl ?_); refine goesL_ (some 4) rfl rfl Try.func88 (by kernel_rfl) rfl #[.slice A0 l0.length c0] rfl ag_ ?_; (with_reducible refine (spec_GoodLabels.calls k _ _ l0 true _ ?side1 ?side2 A2.out).mono ?_); (case side1 => repeat (first | exact HR0.out | (with_reducible refine Kd.C_alloc ?_ _) | (with_reducible refine Kd.C_drewN ?_ _) | (with_reducible refine Kd.C_drew ?_))); (case side2 => exact HC0.out); rintro e w8 ⟨rfl, hb⟩; refine ⟨_, rfl, ?_⟩; have n0_ := am_ (below_step bl_ hb); clear HB; have HB := n0_; clear n0_; (try clear hb); (try clear hb2); (try clear hk); (try clear hi)))
   go_ret
   exact ⟨rf_, bl_⟩
 ·replace c3 := Bool.eq_false_iff.mpr c3
  subst c3
  have H1 : (some false) = some r := by rw [if_neg (show ¬ (false = true) by decide)] at H; exact H
  clear H
  have H := H1
  clear H1
  obtain rfl := Option.some.inj H
  go_enter Try.func95, Try.ntmps95
  go_wp2_with (first | ((with_reducible refine gate_callee (f := 88) rfl ?_); refine goesL_ (some 4) rfl rfl Try.func88 (by kernel_rfl) rfl #[.slice A0 l0.length c0] rfl ag_ ?_; (with_reducible refine (spec_GoodLabels.calls k _ _ l0 false _ ?side1 ?side2 A2.out).mono ?_); (case side1 => repeat (first | exact HR0.out | (with_reducible refine Kd.C_alloc ?_ _) | (with_reducible refine Kd.C_drewN ?_ _) | (with_reducible refine Kd.C_drew ?_))); (case side2 => exact HC0.out); rintro e w9 ⟨rfl, hb⟩; refine ⟨_, rfl, ?_⟩; have n0_ := am_ (below_step bl_ hb); clear HB; have HB := n0_; clear n0_; (try clear hb); (try clear hb2); (try clear hk); (try clear hi)))
  go_ret
  exact ⟨rf_, bl_⟩

/-! ### spec_l4Rules: function 96 -/
def spec_l4Rules.l0 : Nat → List (S42) → Int → Int → Option (Bool)
 | 0, _, _, _ => none
 | k + 1, x8, x9, x10 => if x10 < x9 then (if 0 ≤ x10 then (if x10 < (x8.length : Int) then ((spec_GoodRelabel.f k ((rd_T42 x8 x10).f0) ((rd_T42 x8 x10).f1) ((rd_T42 x8 x10).f2) ((rd_T42 x8 x10).f3) ((rd_T42 x8 x10).f4) ((rd_T42 x8 x10).f5) ((rd_T42 x8 x10).f6)).bind fun t1003 => (if t1003 = true then (spec_l4Rules.l0 k x8 x9 (wrap64 (x10 + 1))) else (some false))) else (none)) else (none)) else (some true)
def spec_l4Rules.f (k : Nat) (l0 : List (S42)) : Option (Bool) := if (l0.length : Int) > 30 then (some false) else (spec_l4Rules.l0 k l0 (l0.length : Int) 0)
theorem spec_l4Rules.mono_l : ∀ k, (∀ y0 y1 y2, LeO (spec_l4Rules.l0 k y0 y1 y2) (spec_l4Rules.l0 (k + 1) y0 y1 y2))
 | 0 => fun _ _ _ r h => by simp [spec_l4Rules.l0] at h
 | k + 1 => by
  have ih0 := spec_l4Rules.mono_l k
  ·intro y0 y1 y2
   unfold spec_l4Rules.l0
   repeat' first
   | with_reducible first | exact ih0 _ _ _ | exact spec_GoodRelabel.mono _ _ _ _ _ _ _ _ | exact LeO.refl _ | exact LeO.none _ | refine LeO.ite ?_ ?_ | refine LeO.bind ?_ (fun _ => ?_)
   | exact ih0 _ _ _
   | exact spec_GoodRelabel.mono _ _ _ _ _ _ _ _
   | exact LeO.none _
   | refine LeO.ite ?_ ?_
   | refine LeO.bind ?_ (fun _ => ?_)
theorem spec_l4Rules.mono : ∀ a0 k, LeO (spec_l4Rules.f k a0) (spec_l4Rules.f (k + 1) a0) := by
 intro a0 k
 have ih0 := spec_l4Rules.mono_l k
 unfold spec_l4Rules.f
 repeat' first
   | with_reducible first | exact ih0 _ _ _ | exact spec_GoodRelabel.mono _ _ _ _ _ _ _ _ | exact LeO.refl _ | exact LeO.none _ | refine LeO.ite ?_ ?_ | refine LeO.bind ?_ (fun _ => ?_)
   | exact ih0 _ _ _
   | exact spec_GoodRelabel.mono _ _ _ _ _ _ _ _
   | exact LeO.none _
   | refine LeO.ite ?_ ?_
   | refine LeO.bind ?_ (fun _ => ?_)
set_option maxHeartbeats 8000000 in
set_option maxRecDepth 100000 in
theorem spec_l4Rules.calls (k : Nat) (A0 : Option Addr) (c0 : Nat) (l0 : List (S42)) (r : Bool) (w : World) (hr0 : Kd.C k42 w A0 l0.length l0) (hc0 : l0.length ≤ c0) (h : spec_l4Rules.f k l0 = some r) :
  Calls Try.prog 96 #[.slice A0 l0.length c0] w fun e w' => e = .returned (.bool r) ∧ Below w.heap.size w w' := by
 have hu42 := Try.underlying42
 have HR0 := am_ hr0
 have HC0 := am_ hc0
 clear hr0 hc0
 have HB := am_ (Below.refl w.heap.size w)
 have H : (if (l0.length : Int) > 30 then (some false) else (spec_l4Rules.l0 k l0 (l0.length : Int) 0)) = some r := h
 clear h
 by_cases c2 : (l0.length : Int) > 30
 ·rw [if_pos c2] at H
  have c2b0 : decide (30 < (l0.length : Int)) = true := decide_eq_true c2
  have c2b1 : decide (30 < l0.length) = true := decide_eq_true (by omega)
  clear c2
  obtain rfl := Option.some.inj H
  go_enter Try.func96, Try.ntmps96
  go_wp2
  go_ret
  exact ⟨rf_, bl_⟩
 ·rw [if_neg c2] at H
  have c2b0 : decide (30 < (l0.length : Int)) = false := decide_eq_false c2
  have c2b1 : decide (30 < l0.length) = false := decide_eq_false (by omega)
  clear c2
  have H' := am_ H
  clear H
  go_enter Try.func96, Try.ntmps96
  go_wp2
  go_loopg [10] k (fun kq v10 w' => ∃ (x10_1 : Int), v10 = .int .i64 x10_1 ∧ Aside0 (spec_l4Rules.l0 kq l0 (l0.length : Int) x10_1 = some r) ∧ Aside0 (kq ≤ k) ∧ Aside0 (Below w.heap.size w w'))
  case atStart => exact ⟨(0), rs_, H', ⟨Nat.le_refl _⟩, ⟨bl_⟩⟩
  case round =>
   clear H'
   try clear c2
   try clear c2b0
   try clear c2b1
   try clear p2
   obtain ⟨x10_1, rfl, HA, HK1, HB⟩ := hrel
   cases gk with
   | zero => exact absurd HA.out (by simp [spec_l4Rules.l0])
   | succ k1 =>
    have H := HA.out
    clear HA
    simp only [spec_l4Rules.l0] at H
    by_cases c3 : x10_1 < (l0.length : Int)
    ·rw [if_pos c3] at H
     have c3b0 : decide (x10_1 < (l0.length : Int)) = true := decide_eq_true c3
     clear c3
     by_cases c4 : 0 ≤ x10_1
     ·rw [if_pos c4] at H
      have c4b0 : decide (0 ≤ x10_1) = true := decide_eq_true c4
      clear c4
      by_cases c5 : x10_1 < (l0.length : Int)
      ·rw [if_pos c5] at H
       have c5b0 : decide (x10_1 < (l0.length : Int)) = true := decide_eq_true c5
       clear c5
       replace H := Option.bind_eq_some_iff.mp H
       obtain ⟨t1003, A60, H⟩ := H
       replace H : (if t1003 = true then (spec_l4Rules.l0 k1 l0 (l0.length : Int) (wrap64 (x10_1 + 1))) else (some false)) = some r := H
       have A6 := am_ A60
       clear A60
       by_cases c7 : t1003 = true
       ·subst c7
        have H1 : (spec_l4Rules.l0 k1 l0 (l0.length : Int) (wrap64 (x10_1 + 1))) = some r := by rw [if_pos rfl] at H; exact H
        clear H
        have H := H1
        clear H1
        have H' := am_ H
        clear H
        have p1001 : 0 ≤ (x10_1 : Int) := od_
        have q1001 : x10_1 < (l0.length : Int) := od_
        obtain ⟨ad1001, A1001_1, c1001_1, e1001, hx1001_0, hx1001_1, hx1001_2, hx1001_3, hx1001_4, hx1001_5, hx1001_6, hl1001_1, hi1001_1⟩ := at_T42 HR0.out x10_1 p1001 q1001
        cases e1001
        replace hx1001_0 := kp_ HB hx1001_0
        replace hx1001_1 := kp_ HB hx1001_1
        replace hx1001_2 := kp_ HB hx1001_2
        replace hx1001_3 := kp_ HB hx1001_3
        replace hx1001_4 := kp_ HB hx1001_4
        replace hx1001_5 := kp_ HB hx1001_5
        replace hx1001_6 := kp_ HB hx1001_6
        have HR1001_1 := am_ hi1001_1
        have HC1001_1 := am_ hl1001_1
        clear hi1001_1 hl1001_1
        replace p1001 := eq_true p1001
        replace q1001 := eq_true q1001
        go_wp2_with (first | ((with_reducible refine gate_dst (N := 4) rfl ?_); refine box_event ?hg (N := 4) ?hd (cs := #[.int .i64 0, .slice none 0 0, .string (⟨#[]⟩ : ByteArray), .string (⟨#[]⟩ : ByteArray), .string (⟨#[]⟩ : ByteArray), .string (⟨#[]⟩ : ByteArray), .int .i64 0]) (t := 42) ?hr ?_; (case hd => rfl); (case hg => rfl); (case hr => first | (go_simp; done) | (go_simp; rfl)); intro gb1002 hg w8 hbox hb; have n0_ := am_ (below_step bl_ hb); have n1_ := am_ (hbox); have n2_ := am_ (gs_ hg : w.heap.size ≤ gb1002); have n3_ := n2_; clear HB; have HB := n0_; have BK1002 := n1_; have GW1002 := n2_; have GE1002 := n3_; clear n0_ n1_ n2_ n3_; clear hb hbox hg; have hcz9_0 : w8.cell? ⟨gb1002, 0, none⟩ = some (.int .i64 0) := (blk_cell BK1002.out 0).trans rfl; have hcz9_1 : w8.cell? ⟨gb1002, 1, none⟩ = some (.slice none 0 0) := (blk_cell BK1002.out 1).trans rfl; have hcz9_2 : w8.cell? ⟨gb1002, 2, none⟩ = some (.string (⟨#[]⟩ : ByteArray)) := (blk_cell BK1002.out 2).trans rfl; have hcz9_3 : w8.cell? ⟨gb1002, 3, none⟩ = some (.string (⟨#[]⟩ : ByteArray)) := (blk_cell BK1002.out 3).trans rfl; have hcz9_4 : w8.cell? ⟨gb1002, 4, none⟩ = some (.string (⟨#[]⟩ : ByteArray)) := (blk_cell BK1002.out 4).trans rfl; have hcz9_5 : w8.cell? ⟨gb1002, 5, none⟩ = some (.string (⟨#[]⟩ : ByteArray)) := (blk_cell BK1002.out 5).trans rfl; have hcz9_6 : w8.cell? ⟨gb1002, 6, none⟩ = some (.int .i64 0) := (blk_cell BK1002.out 6).trans rfl; have hfz9_0 := bf_ BK1002 0; have hfz9_1 := bf_ BK1002 1; have hfz9_2 := bf_ BK1002 2; have hfz9_3 := bf_ BK1002 3; have hfz9_4 := bf_ BK1002 4; have hfz9_5 := bf_ BK1002 5; have hfz9_6 := bf_ BK1002 6) | ((with_reducible refine gate_callee (f := 32) rfl ?_); refine goesL_ (some 15) rfl rfl Try.func32 (by kernel_rfl) rfl #[.agg #[.int .i64 ((rd_T42 l0 x10_1).f0), .slice A1001_1 ((rd_T42 l0 x10_1).f1).length c1001_1, .string ((rd_T42 l0 x10_1).f2), .string ((rd_T42 l0 x10_1).f3), .string ((rd_T42 l0 x10_1).f4), .string ((rd_T42 l0 x10_1).f5), .int .i64 ((rd_T42 l0 x10_1).f6)]] rfl ag_ ?_; (with_reducible refine (spec_GoodRelabel.calls k1 ((rd_T42 l0 x10_1).f0) _ _ ((rd_T42 l0 x10_1).f1) ((rd_T42 l0 x10_1).f2) ((rd_T42 l0 x10_1).f3) ((rd_T42 l0 x10_1).f4) ((rd_T42 l0 x10_1).f5) ((rd_T42 l0 x10_1).f6) true _ ?side1 ?side2 A6.out).mono ?_); (case side1 => exact Kd.C_below HR1001_1.out bg_); (case side2 => exact HC1001_1.out); rintro e w10 ⟨rfl, hb⟩; refine ⟨_, rfl, ?_⟩; have n0_ := am_ (blk_below (g := gb1002) (o := .cells #[.int .i64 ((rd_T42 l0 x10_1).f0), .slice A1001_1 ((rd_T42 l0 x10_1).f1).length c1001_1, .string ((rd_T42 l0 x10_1).f2), .string ((rd_T42 l0 x10_1).f3), .string ((rd_T42 l0 x10_1).f4), .string ((rd_T42 l0 x10_1).f5), .int .i64 ((rd_T42 l0 x10_1).f6)] 42 (0, 0)) (by (with_reducible repeat (first | refine blk_drewN ?_ _ | refine blk_drew ?_ | refine blk_alloc ?_ _)); refine blk_put (cs := #[.int .i64 ((rd_T42 l0 x10_1).f0), .slice A1001_1 ((rd_T42 l0 x10_1).f1).length c1001_1, .string ((rd_T42 l0 x10_1).f2), .string ((rd_T42 l0 x10_1).f3), .string ((rd_T42 l0 x10_1).f4), .string ((rd_T42 l0 x10_1).f5), .int .i64 0]) ?_ 6 _ rfl; (with_reducible repeat (first | refine blk_drewN ?_ _ | refine blk_drew ?_ | refine blk_alloc ?_ _)); refine blk_put (cs := #[.int .i64 ((rd_T42 l0 x10_1).f0), .slice A1001_1 ((rd_T42 l0 x10_1).f1).length c1001_1, .string ((rd_T42 l0 x10_1).f2), .string ((rd_T42 l0 x10_1).f3), .string ((rd_T42 l0 x10_1).f4), .string (⟨#[]⟩ : ByteArray), .int .i64 0]) ?_ 5 _ rfl; (with_reducible repeat (first | refine blk_drewN ?_ _ | refine blk_drew ?_ | refine blk_alloc ?_ _)); refine blk_put (cs := #[.int .i64 ((rd_T42 l0 x10_1).f0), .slice A1001_1 ((rd_T42 l0 x10_1).f1).length c1001_1, .string ((rd_T42 l0 x10_1).f2), .string ((rd_T42 l0 x10_1).f3), .string (⟨#[]⟩ : ByteArray), .string (⟨#[]⟩ : ByteArray), .int .i64 0]) ?_ 4 _ rfl; (with_reducible repeat (first | refine blk_drewN ?_ _ | refine blk_drew ?_ | refine blk_alloc ?_ _)); refine blk_put (cs := #[.int .i64 ((rd_T42 l0 x10_1).f0), .slice A1001_1 ((rd_T42 l0 x10_1).f1).length c1001_1, .string ((rd_T42 l0 x10_1).f2), .string (⟨#[]⟩ : ByteArray), .string (⟨#[]⟩ : ByteArray), .string (⟨#[]⟩ : ByteArray), .int .i64 0]) ?_ 3 _ rfl; (with_reducible repeat (first | refine blk_drewN ?_ _ | refine blk_drew ?_ | refine blk_alloc ?_ _)); refine blk_put (cs := #[.int .i64 ((rd_T42 l0 x10_1).f0), .slice A1001_1 ((rd_T42 l0 x10_1).f1).length c1001_1, .string (⟨#[]⟩ : ByteArray), .string (⟨#[]⟩ : ByteArray), .string (⟨#[]⟩ : ByteArray), .string (⟨#[]⟩ : ByteArray), .int .i64 0]) ?_ 2 _ rfl; (with_reducible repeat (first | refine blk_drewN ?_ _ | refine blk_drew ?_ | refine blk_alloc ?_ _)); refine blk_put (cs := #[.int .i64 ((rd_T42 l0 x10_1).f0), .slice none 0 0, .string (⟨#[]⟩ : ByteArray), .string (⟨#[]⟩ : ByteArray), .string (⟨#[]⟩ : ByteArray), .string (⟨#[]⟩ : ByteArray), .int .i64 0]) ?_ 1 _ rfl; (with_reducible repeat (first | refine blk_drewN ?_ _ | refine blk_drew ?_ | refine blk_alloc ?_ _)); refine blk_put (cs := #[.int .i64 0, .slice none 0 0, .string (⟨#[]⟩ : ByteArray), .string (⟨#[]⟩ : ByteArray), .string (⟨#[]⟩ : ByteArray), .string (⟨#[]⟩ : ByteArray), .int .i64 0]) ?_ 0 _ rfl; (with_reducible repeat (first | refine blk_drewN ?_ _ | refine blk_drew ?_ | refine blk_alloc ?_ _)); exact BK1002.out) hb); have n1_ := am_ (below_step bg_ hb); clear BK1002; clear HB; have BK1002 := n0_; have HB := n1_; clear n0_ n1_; (try clear hb); (try clear hb2); (try clear hk); (try clear hi)))
        go_roundg k1
        case measure => have := HK1.out; omega
        case rel => exact ⟨(wrap64 (x10_1 + 1)), rs_, H', ⟨by have := HK1.out; omega⟩, ⟨bg_⟩⟩
       ·replace c7 := Bool.eq_false_iff.mpr c7
        subst c7
        have H1 : (some false) = some r := by rw [if_neg (show ¬ (false = true) by decide)] at H; exact H
        clear H
        have H := H1
        clear H1
        obtain rfl := Option.some.inj H
        have p1001 : 0 ≤ (x10_1 : Int) := od_
        have q1001 : x10_1 < (l0.length : Int) := od_
        obtain ⟨ad1001, A1001_1, c1001_1, e1001, hx1001_0, hx1001_1, hx1001_2, hx1001_3, hx1001_4, hx1001_5, hx1001_6, hl1001_1, hi1001_1⟩ := at_T42 HR0.out x10_1 p1001 q1001
        cases e1001
        replace hx1001_0 := kp_ HB hx1001_0
        replace hx1001_1 := kp_ HB hx1001_1
        replace hx1001_2 := kp_ HB hx1001_2
        replace hx1001_3 := kp_ HB hx1001_3
        replace hx1001_4 := kp_ HB hx1001_4
        replace hx1001_5 := kp_ HB hx1001_5
        replace hx1001_6 := kp_ HB hx1001_6
        have HR1001_1 := am_ hi1001_1
        have HC1001_1 := am_ hl1001_1
        clear hi1001_1 hl1001_1
        replace p1001 := eq_true p1001
        replace q1001 := eq_true q1001
        go_wp2_with (first | ((with_reducible refine gate_dst (N := 4) rfl ?_); refine box_event ?hg (N := 4) ?hd (cs := #[.int .i64 0, .slice none 0 0, .string (⟨#[]⟩ : ByteArray), .string (⟨#[]⟩ : ByteArray), .string (⟨#[]⟩ : ByteArray), .string (⟨#[]⟩ : ByteArray), .int .i64 0]) (t := 42) ?hr ?_; (case hd => rfl); (case hg => rfl); (case hr => first | (go_simp; done) | (go_simp; rfl)); intro gb1002 hg w11 hbox hb; have n0_ := am_ (below_step bl_ hb); have n1_ := am_ (hbox); have n2_ := am_ (gs_ hg : w.heap.size ≤ gb1002); have n3_ := n2_; clear HB; have HB := n0_; have BK1002 := n1_; have GW1002 := n2_; have GE1002 := n3_; clear n0_ n1_ n2_ n3_; clear hb hbox hg; have hcz12_0 : w11.cell? ⟨gb1002, 0, none⟩ = some (.int .i64 0) := (blk_cell BK1002.out 0).trans rfl; have hcz12_1 : w11.cell? ⟨gb1002, 1, none⟩ = some (.slice none 0 0) := (blk_cell BK1002.out 1).trans rfl; have hcz12_2 : w11.cell? ⟨gb1002, 2, none⟩ = some (.string (⟨#[]⟩ : ByteArray)) := (blk_cell BK1002.out 2).trans rfl; have hcz12_3 : w11.cell? ⟨gb1002, 3, none⟩ = some (.string (⟨#[]⟩ : ByteArray)) := (blk_cell BK1002.out 3).trans rfl; have hcz12_4 : w11.cell? ⟨gb1002, 4, none⟩ = some (.string (⟨#[]⟩ : ByteArray)) := (blk_cell BK1002.out 4).trans rfl; have hcz12_5 : w11.cell? ⟨gb1002, 5, none⟩ = some (.string (⟨#[]⟩ : ByteArray)) := (blk_cell BK1002.out 5).trans rfl; have hcz12_6 : w11.cell? ⟨gb1002, 6, none⟩ = some (.int .i64 0) := (blk_cell BK1002.out 6).trans rfl; have hfz12_0 := bf_ BK1002 0; have hfz12_1 := bf_ BK1002 1; have hfz12_2 := bf_ BK1002 2; have hfz12_3 := bf_ BK1002 3; have hfz12_4 := bf_ BK1002 4; have hfz12_5 := bf_ BK1002 5; have hfz12_6 := bf_ BK1002 6) | ((with_reducible refine gate_callee (f := 32) rfl ?_); refine goesL_ (some 15) rfl rfl Try.func32 (by kernel_rfl) rfl #[.agg #[.int .i64 ((rd_T42 l0 x10_1).f0), .slice A1001_1 ((rd_T42 l0 x10_1).f1).length c1001_1, .string ((rd_T42 l0 x10_1).f2), .string ((rd_T42 l0 x10_1).f3), .string ((rd_T42 l0 x10_1).f4), .string ((rd_T42 l0 x10_1).f5), .int .i64 ((rd_T42 l0 x10_1).f6)]] rfl ag_ ?_; (with_reducible refine (spec_GoodRelabel.calls k1 ((rd_T42 l0 x10_1).f0) _ _ ((rd_T42 l0 x10_1).f1) ((rd_T42 l0 x10_1).f2) ((rd_T42 l0 x10_1).f3) ((rd_T42 l0 x10_1).f4) ((rd_T42 l0 x10_1).f5) ((rd_T42 l0 x10_1).f6) false _ ?side1 ?side2 A6.out).mono ?_); (case side1 => exact Kd.C_below HR1001_1.out bg_); (case side2 => exact HC1001_1.out); rintro e w13 ⟨rfl, hb⟩; refine ⟨_, rfl, ?_⟩; have n0_ := am_ (blk_below (g := gb1002) (o := .cells #[.int .i64 ((rd_T42 l0 x10_1).f0), .slice A1001_1 ((rd_T42 l0 x10_1).f1).length c1001_1, .string ((rd_T42 l0 x10_1).f2), .string ((rd_T42 l0 x10_1).f3), .string ((rd_T42 l0 x10_1).f4), .string ((rd_T42 l0 x10_1).f5), .int .i64 ((rd_T42 l0 x10_1).f6)] 42 (0, 0)) (by (with_reducible repeat (first | refine blk_drewN ?_ _ | refine blk_drew ?_ | refine blk_alloc ?_ _)); refine blk_put (cs := #[.int .i64 ((rd_T42 l0 x10_1).f0), .slice A1001_1 ((rd_T42 l0 x10_1).f1).length c1001_1, .string ((rd_T42 l0 x10_1).f2), .string ((rd_T42 l0 x10_1).f3), .string ((rd_T42 l0 x10_1).f4), .string ((rd_T42 l0 x10_1).f5), .int .i64 0]) ?_ 6 _ rfl; (with_reducible repeat (first | refine blk_drewN ?_ _ | refine blk_drew ?_ | refine blk_alloc ?_ _)); refine blk_put (cs := #[.int .i64 ((rd_T42 l0 x10_1).f0), .slice A1001_1 ((rd_T42 l0 x10_1).f1).length c1001_1, .string ((rd_T42 l0 x10_1).f2), .string ((rd_T42 l0 x10_1).f3), .string ((rd_T42 l0 x10_1).f4), .string (⟨#[]⟩ : ByteArray), .int .i64 0]) ?_ 5 _ rfl; (with_reducible repeat (first | refine blk_drewN ?_ _ | refine blk_drew ?_ | refine blk_alloc ?_ _)); refine blk_put (cs := #[.int .i64 ((rd_T42 l0 x10_1).f0), .slice A1001_1 ((rd_T42 l0 x10_1).f1).length c1001_1, .string ((rd_T42 l0 x10_1).f2), .string ((rd_T42 l0 x10_1).f3), .string (⟨#[]⟩ : ByteArray), .string (⟨#[]⟩ : ByteArray), .int .i64 0]) ?_ 4 _ rfl; (with_reducible repeat (first | refine blk_drewN ?_ _ | refine blk_drew ?_ | refine blk_alloc ?_ _)); refine blk_put (cs := #[.int .i64 ((rd_T42 l0 x10_1).f0), .slice A1001_1 ((rd_T42 l0 x10_1).f1).length c1001_1, .string ((rd_T42 l0 x10_1).f2), .string (⟨#[]⟩ : ByteArray), .string (⟨#[]⟩ : ByteArray), .string (⟨#[]⟩ : ByteArray), .int .i64 0]) ?_ 3 _ rfl; (with_reducible repeat (first | refine blk_drewN ?_ _ | refine blk_drew ?_ | refine blk_alloc ?_ _)); refine blk_put (cs := #[.int .i64 ((rd_T42 l0 x10_1).f0), .slice A1001_1 ((rd_T42 l0 x10_1).f1).length c1001_1, .string (⟨#[]⟩ : ByteArray), .string (⟨#[]⟩ : ByteArray), .string (⟨#[]⟩ : ByteArray), .string (⟨#[]⟩ : ByteArray), .int .i64 0]) ?_ 2 _ rfl; (with_reducible repeat (first | refine blk_drewN ?_ _ | refine blk_drew ?_ | refine blk_alloc ?_ _)); refine blk_put (cs := #[.int .i64 ((rd_T42 l0 x10_1).f0), .slice none 0 0, .string (⟨#[]⟩ : ByteArray), .string (⟨#[]⟩ : ByteArray), .string (⟨#[]⟩ : ByteArray), .string (⟨#[]⟩ : ByteArray), .int .i64 0]) ?_ 1 _ rfl; (with_reducible repeat (first | refine blk_drewN ?_ _ | refine blk_drew ?_ | refine blk_alloc ?_ _)); refine blk_put (cs := #[.int .i64 0, .slice none 0 0, .string (⟨#[]⟩ : ByteArray), .string (⟨#[]⟩ : ByteArray), .string (⟨#[]⟩ : ByteArray), .string (⟨#[]⟩ : ByteArray), .int .i64 0]) ?_ 0 _ rfl; (with_reducible repeat (first | refine blk_drewN ?_ _ | refine blk_drew ?_ | refine blk_alloc ?_ _)); exact BK1002.out) hb); have n1_ := am_ (below_step bg_ hb); clear BK1002; clear HB; have BK1002 := n0_; have HB := n1_; clear n0_ n1_; (try clear hb); (try clear hb2); (try clear hk); (try clear hi)))
        go_ret
        exact ⟨rf_, bg_⟩
      ·rw [if_neg c5] at H
       exact absurd H (by simp)
     ·rw [if_neg c4] at H
      exact absurd H (by simp)
    ·rw [if_neg c3] at H
     have c3b0 : decide (x10_1 < (l0.length : Int)) = false := decide_eq_false c3
     clear c3
     obtain rfl := Option.some.inj H
     go_wp2
     go_ret
     exact ⟨rf_, bl_⟩

/-! ### spec_GoodTarget: function 42 -/
def spec_GoodTarget.f (k : Nat) (l0_0 : List (S105)) (a0_1 : Int) (a0_2 : Int) (a0_3 : Bool) (l0_4 : List (S42)) : Option (Bool) := (spec_l5Bare.f k l0_0).bind fun t1002 => (if t1002 = true then (if a0_1 ≥ 1 then (if a0_1 ≤ 3600 then (if a0_2 ≥ 0 then (if a0_2 ≤ 1000 then ((spec_l4Rules.f k l0_4).bind fun t1003 => (some t1003)) else (some false)) else (some false)) else (some false)) else (some false)) else (some false))
theorem spec_GoodTarget.mono : ∀ a0 a1 a2 a3 a4 k, LeO (spec_GoodTarget.f k a0 a1 a2 a3 a4) (spec_GoodTarget.f (k + 1) a0 a1 a2 a3 a4) := by
 intro a0 a1 a2 a3 a4 k
 unfold spec_GoodTarget.f
 repeat' first
   | with_reducible first | exact spec_l4Rules.mono _ _ | exact spec_l5Bare.mono _ _ | exact LeO.refl _ | exact LeO.none _ | refine LeO.ite ?_ ?_ | refine LeO.bind ?_ (fun _ => ?_)
   | exact spec_l4Rules.mono _ _
   | exact spec_l5Bare.mono _ _
   | exact LeO.none _
   | refine LeO.ite ?_ ?_
   | refine LeO.bind ?_ (fun _ => ?_)
set_option maxHeartbeats 8000000 in
set_option maxRecDepth 100000 in
theorem spec_GoodTarget.calls (k : Nat) (A0_0 : Option Addr) (c0_0 : Nat) (l0_0 : List (S105)) (a0_1 : Int) (a0_2 : Int) (a0_3 : Bool) (A0_4 : Option Addr) (c0_4 : Nat) (l0_4 : List (S42)) (r : Bool) (w : World) (hr0_0 : Kd.C k105 w A0_0 l0_0.length l0_0) (hc0_0 : l0_0.length ≤ c0_0) (hr0_4 : Kd.C k42 w A0_4 l0_4.length l0_4) (hc0_4 : l0_4.length ≤ c0_4) (h : spec_GoodTarget.f k l0_0 a0_1 a0_2 a0_3 l0_4 = some r) :
  Calls Try.prog 42 #[.agg #[.slice A0_0 l0_0.length c0_0, .int .i64 a0_1, .int .i64 a0_2, .bool a0_3, .slice A0_4 l0_4.length c0_4]] w fun e w' => e = .returned (.bool r) ∧ Below w.heap.size w w' := by
 have hu60 := Try.underlying60
 have HR0_0 := am_ hr0_0
 have HC0_0 := am_ hc0_0
 clear hr0_0 hc0_0
 have HR0_4 := am_ hr0_4
 have HC0_4 := am_ hc0_4
 clear hr0_4 hc0_4
 have HB := am_ (Below.refl w.heap.size w)
 have H : ((spec_l5Bare.f k l0_0).bind fun t1002 => (if t1002 = true then (if a0_1 ≥ 1 then (if a0_1 ≤ 3600 then (if a0_2 ≥ 0 then (if a0_2 ≤ 1000 then ((spec_l4Rules.f k l0_4).bind fun t1003 => (some t1003)) else (some false)) else (some false)) else (some false)) else (some false)) else (some false))) = some r := h
 clear h
 replace H := Option.bind_eq_some_iff.mp H
 obtain ⟨t1002, A20, H⟩ := H
 replace H : (if t1002 = true then (if a0_1 ≥ 1 then (if a0_1 ≤ 3600 then (if a0_2 ≥ 0 then (if a0_2 ≤ 1000 then ((spec_l4Rules.f k l0_4).bind fun t1003 => (some t1003)) else (some false)) else (some false)) else (some false)) else (some false)) else (some false)) = some r := H
 have A2 := am_ A20
 clear A20
 by_cases c3 : t1002 = true
 ·subst c3
  have H1 : (if a0_1 ≥ 1 then (if a0_1 ≤ 3600 then (if a0_2 ≥ 0 then (if a0_2 ≤ 1000 then ((spec_l4Rules.f k l0_4).bind fun t1003 => (some t1003)) else (some false)) else (some false)) else (some false)) else (some false)) = some r := by rw [if_pos rfl] at H; exact H
  clear H
  have H := H1
  clear H1
  by_cases c4 : a0_1 ≥ 1
  ·rw [if_pos c4] at H
   have c4b0 : decide (1 ≤ a0_1) = true := decide_eq_true c4
   clear c4
   by_cases c5 : a0_1 ≤ 3600
   ·rw [if_pos c5] at H
    have c5b0 : decide (a0_1 ≤ 3600) = true := decide_eq_true c5
    clear c5
    by_cases c6 : a0_2 ≥ 0
    ·rw [if_pos c6] at H
     have c6b0 : decide (0 ≤ a0_2) = true := decide_eq_true c6
     clear c6
     by_cases c7 : a0_2 ≤ 1000
     ·rw [if_pos c7] at H
      have c7b0 : decide (a0_2 ≤ 1000) = true := decide_eq_true c7
      clear c7
      replace H := Option.bind_eq_some_iff.mp H
      obtain ⟨t1003, A80, H⟩ := H
      replace H : (some t1003) = some r := H
      have A8 := am_ A80
      clear A80
      obtain rfl := Option.some.inj H
      go_enter Try.func42, Try.ntmps42
      go_wp2_with (first | ((with_reducible refine gate_dst (N := 1) rfl ?_); refine box_event ?hg (N := 1) ?hd (cs := #[.slice A0_0 l0_0.length c0_0, .int .i64 a0_1, .int .i64 a0_2, .bool a0_3, .slice A0_4 l0_4.length c0_4]) (t := 60) ?hr ?_; (case hd => rfl); (case hg => rfl); (case hr => first | (go_simp; done) | (go_simp; rfl)); intro gb1001 hg w9 hbox hb; have n0_ := am_ (below_step bl_ hb); have n1_ := am_ (hbox); have n2_ := am_ (gs_ hg : w.heap.size ≤ gb1001); have n3_ := n2_; clear HB; have HB := n0_; have BK1001 := n1_; have GW1001 := n2_; have GE1001 := n3_; clear n0_ n1_ n2_ n3_; clear hb hbox hg; have hcz10_0 := bc5_0 BK1001; have hcz10_1 := bc5_1 BK1001; have hcz10_2 := bc5_2 BK1001; have hcz10_3 := bc5_3 BK1001; have hcz10_4 := bc5_4 BK1001; have hfz10_0 := bf_ BK1001 0; have hfz10_1 := bf_ BK1001 1; have hfz10_2 := bf_ BK1001 2; have hfz10_3 := bf_ BK1001 3; have hfz10_4 := bf_ BK1001 4) | ((with_reducible refine gate_callee (f := 95) rfl ?_); refine goesL_ (some 5) rfl rfl Try.func95 (by kernel_rfl) rfl #[.slice A0_0 l0_0.length c0_0] rfl ag_ ?_; (with_reducible refine (spec_l5Bare.calls k _ _ l0_0 true _ ?side1 ?side2 A2.out).mono ?_); (case side1 => exact cc_ (Kd.C_below HR0_0.out HB.out)); (case side2 => exact HC0_0.out); rintro e w11 ⟨rfl, hb⟩; refine ⟨_, rfl, ?_⟩; have n0_ := am_ (blk_below (g := gb1001) (vk_ BK1001) hb); have n1_ := am_ (below_step bg_ hb); clear BK1001; clear HB; have BK1001 := n0_; have HB := n1_; clear n0_ n1_; (try clear hb); (try clear hb2); (try clear hk); (try clear hi); have hcz12_0 := bc5_0 BK1001; have hcz12_1 := bc5_1 BK1001; have hcz12_2 := bc5_2 BK1001; have hcz12_3 := bc5_3 BK1001; have hcz12_4 := bc5_4 BK1001; have hfz12_0 := bf_ BK1001 0; have hfz12_1 := bf_ BK1001 1; have hfz12_2 := bf_ BK1001 2; have hfz12_3 := bf_ BK1001 3; have hfz12_4 := bf_ BK1001 4) | (go_at_call 96; (with_reducible refine (spec_l4Rules.calls k _ _ l0_4 t1003 _ ?side1 ?side2 A8.out).mono ?_); (case side1 => exact cc_ (Kd.C_below HR0_4.out HB.out)); (case side2 => exact HC0_4.out); rintro e w13 ⟨rfl, hb⟩; have n0_ := am_ (blk_below (g := gb1001) (vk_ BK1001) hb); have n1_ := am_ (below_step bg_ hb); clear BK1001; clear HB; have BK1001 := n0_; have HB := n1_; clear n0_ n1_; (try clear hb); (try clear hb2); (try clear hk); (try clear hi)))
      go_ret
      exact ⟨rf_, bg_⟩
     ·rw [if_neg c7] at H
      have c7b0 : decide (a0_2 ≤ 1000) = false := decide_eq_false c7
      clear c7
      obtain rfl := Option.some.inj H
      go_enter Try.func42, Try.ntmps42
      go_wp2_with (first | ((with_reducible refine gate_dst (N := 1) rfl ?_); refine box_event ?hg (N := 1) ?hd (cs := #[.slice A0_0 l0_0.length c0_0, .int .i64 a0_1, .int .i64 a0_2, .bool a0_3, .slice A0_4 l0_4.length c0_4]) (t := 60) ?hr ?_; (case hd => rfl); (case hg => rfl); (case hr => first | (go_simp; done) | (go_simp; rfl)); intro gb1001 hg w14 hbox hb; have n0_ := am_ (below_step bl_ hb); have n1_ := am_ (hbox); have n2_ := am_ (gs_ hg : w.heap.size ≤ gb1001); have n3_ := n2_; clear HB; have HB := n0_; have BK1001 := n1_; have GW1001 := n2_; have GE1001 := n3_; clear n0_ n1_ n2_ n3_; clear hb hbox hg; have hcz15_0 := bc5_0 BK1001; have hcz15_1 := bc5_1 BK1001; have hcz15_2 := bc5_2 BK1001; have hcz15_3 := bc5_3 BK1001; have hcz15_4 := bc5_4 BK1001; have hfz15_0 := bf_ BK1001 0; have hfz15_1 := bf_ BK1001 1; have hfz15_2 := bf_ BK1001 2; have hfz15_3 := bf_ BK1001 3; have hfz15_4 := bf_ BK1001 4) | ((with_reducible refine gate_callee (f := 95) rfl ?_); refine goesL_ (some 5) rfl rfl Try.func95 (by kernel_rfl) rfl #[.slice A0_0 l0_0.length c0_0] rfl ag_ ?_; (with_reducible refine (spec_l5Bare.calls k _ _ l0_0 true _ ?side1 ?side2 A2.out).mono ?_); (case side1 => exact cc_ (Kd.C_below HR0_0.out HB.out)); (case side2 => exact HC0_0.out); rintro e w16 ⟨rfl, hb⟩; refine ⟨_, rfl, ?_⟩; have n0_ := am_ (blk_below (g := gb1001) (vk_ BK1001) hb); have n1_ := am_ (below_step bg_ hb); clear BK1001; clear HB; have BK1001 := n0_; have HB := n1_; clear n0_ n1_; (try clear hb); (try clear hb2); (try clear hk); (try clear hi); have hcz17_0 := bc5_0 BK1001; have hcz17_1 := bc5_1 BK1001; have hcz17_2 := bc5_2 BK1001; have hcz17_3 := bc5_3 BK1001; have hcz17_4 := bc5_4 BK1001; have hfz17_0 := bf_ BK1001 0; have hfz17_1 := bf_ BK1001 1; have hfz17_2 := bf_ BK1001 2; have hfz17_3 := bf_ BK1001 3; have hfz17_4 := bf_ BK1001 4))
      go_ret
      exact ⟨rf_, bg_⟩
    ·rw [if_neg c6] at H
     have c6b0 : decide (0 ≤ a0_2) = false := decide_eq_false c6
     clear c6
     obtain rfl := Option.some.inj H
     go_enter Try.func42, Try.ntmps42
     go_wp2_with (first | ((with_reducible refine gate_dst (N := 1) rfl ?_); refine box_event ?hg (N := 1) ?hd (cs := #[.slice A0_0 l0_0.length c0_0, .int .i64 a0_1, .int .i64 a0_2, .bool a0_3, .slice A0_4 l0_4.length c0_4]) (t := 60) ?hr ?_; (case hd => rfl); (case hg => rfl); (case hr => first | (go_simp; done) | (go_simp; rfl)); intro gb1001 hg w18 hbox hb; have n0_ := am_ (below_step bl_ hb); have n1_ := am_ (hbox); have n2_ := am_ (gs_ hg : w.heap.size ≤ gb1001); have n3_ := n2_; clear HB; have HB := n0_; have BK1001 := n1_; have GW1001 := n2_; have GE1001 := n3_; clear n0_ n1_ n2_ n3_; clear hb hbox hg; have hcz19_0 := bc5_0 BK1001; have hcz19_1 := bc5_1 BK1001; have hcz19_2 := bc5_2 BK1001; have hcz19_3 := bc5_3 BK1001; have hcz19_4 := bc5_4 BK1001; have hfz19_0 := bf_ BK1001 0; have hfz19_1 := bf_ BK1001 1; have hfz19_2 := bf_ BK1001 2; have hfz19_3 := bf_ BK1001 3; have hfz19_4 := bf_ BK1001 4) | ((with_reducible refine gate_callee (f := 95) rfl ?_); refine goesL_ (some 5) rfl rfl Try.func95 (by kernel_rfl) rfl #[.slice A0_0 l0_0.length c0_0] rfl ag_ ?_; (with_reducible refine (spec_l5Bare.calls k _ _ l0_0 true _ ?side1 ?side2 A2.out).mono ?_); (case side1 => exact cc_ (Kd.C_below HR0_0.out HB.out)); (case side2 => exact HC0_0.out); rintro e w20 ⟨rfl, hb⟩; refine ⟨_, rfl, ?_⟩; have n0_ := am_ (blk_below (g := gb1001) (vk_ BK1001) hb); have n1_ := am_ (below_step bg_ hb); clear BK1001; clear HB; have BK1001 := n0_; have HB := n1_; clear n0_ n1_; (try clear hb); (try clear hb2); (try clear hk); (try clear hi); have hcz21_0 := bc5_0 BK1001; have hcz21_1 := bc5_1 BK1001; have hcz21_2 := bc5_2 BK1001; have hcz21_3 := bc5_3 BK1001; have hcz21_4 := bc5_4 BK1001; have hfz21_0 := bf_ BK1001 0; have hfz21_1 := bf_ BK1001 1; have hfz21_2 := bf_ BK1001 2; have hfz21_3 := bf_ BK1001 3; have hfz21_4 := bf_ BK1001 4))
     go_ret
     exact ⟨rf_, bg_⟩
   ·rw [if_neg c5] at H
    have c5b0 : decide (a0_1 ≤ 3600) = false := decide_eq_false c5
    clear c5
    obtain rfl := Option.some.inj H
    go_enter Try.func42, Try.ntmps42
    go_wp2_with (first | ((with_reducible refine gate_dst (N := 1) rfl ?_); refine box_event ?hg (N := 1) ?hd (cs := #[.slice A0_0 l0_0.length c0_0, .int .i64 a0_1, .int .i64 a0_2, .bool a0_3, .slice A0_4 l0_4.length c0_4]) (t := 60) ?hr ?_; (case hd => rfl); (case hg => rfl); (case hr => first | (go_simp; done) | (go_simp; rfl)); intro gb1001 hg w22 hbox hb; have n0_ := am_ (below_step bl_ hb); have n1_ := am_ (hbox); have n2_ := am_ (gs_ hg : w.heap.size ≤ gb1001); have n3_ := n2_; clear HB; have HB := n0_; have BK1001 := n1_; have GW1001 := n2_; have GE1001 := n3_; clear n0_ n1_ n2_ n3_; clear hb hbox hg; have hcz23_0 := bc5_0 BK1001; have hcz23_1 := bc5_1 BK1001; have hcz23_2 := bc5_2 BK1001; have hcz23_3 := bc5_3 BK1001; have hcz23_4 := bc5_4 BK1001; have hfz23_0 := bf_ BK1001 0; have hfz23_1 := bf_ BK1001 1; have hfz23_2 := bf_ BK1001 2; have hfz23_3 := bf_ BK1001 3; have hfz23_4 := bf_ BK1001 4) | ((with_reducible refine gate_callee (f := 95) rfl ?_); refine goesL_ (some 5) rfl rfl Try.func95 (by kernel_rfl) rfl #[.slice A0_0 l0_0.length c0_0] rfl ag_ ?_; (with_reducible refine (spec_l5Bare.calls k _ _ l0_0 true _ ?side1 ?side2 A2.out).mono ?_); (case side1 => exact cc_ (Kd.C_below HR0_0.out HB.out)); (case side2 => exact HC0_0.out); rintro e w24 ⟨rfl, hb⟩; refine ⟨_, rfl, ?_⟩; have n0_ := am_ (blk_below (g := gb1001) (vk_ BK1001) hb); have n1_ := am_ (below_step bg_ hb); clear BK1001; clear HB; have BK1001 := n0_; have HB := n1_; clear n0_ n1_; (try clear hb); (try clear hb2); (try clear hk); (try clear hi); have hcz25_0 := bc5_0 BK1001; have hcz25_1 := bc5_1 BK1001; have hcz25_2 := bc5_2 BK1001; have hcz25_3 := bc5_3 BK1001; have hcz25_4 := bc5_4 BK1001; have hfz25_0 := bf_ BK1001 0; have hfz25_1 := bf_ BK1001 1; have hfz25_2 := bf_ BK1001 2; have hfz25_3 := bf_ BK1001 3; have hfz25_4 := bf_ BK1001 4))
    go_ret
    exact ⟨rf_, bg_⟩
  ·rw [if_neg c4] at H
   have c4b0 : decide (1 ≤ a0_1) = false := decide_eq_false c4
   clear c4
   obtain rfl := Option.some.inj H
   go_enter Try.func42, Try.ntmps42
   go_wp2_with (first | ((with_reducible refine gate_dst (N := 1) rfl ?_); refine box_event ?hg (N := 1) ?hd (cs := #[.slice A0_0 l0_0.length c0_0, .int .i64 a0_1, .int .i64 a0_2, .bool a0_3, .slice A0_4 l0_4.length c0_4]) (t := 60) ?hr ?_; (case hd => rfl); (case hg => rfl); (case hr => first | (go_simp; done) | (go_simp; rfl)); intro gb1001 hg w26 hbox hb; have n0_ := am_ (below_step bl_ hb); have n1_ := am_ (hbox); have n2_ := am_ (gs_ hg : w.heap.size ≤ gb1001); have n3_ := n2_; clear HB; have HB := n0_; have BK1001 := n1_; have GW1001 := n2_; have GE1001 := n3_; clear n0_ n1_ n2_ n3_; clear hb hbox hg; have hcz27_0 := bc5_0 BK1001; have hcz27_1 := bc5_1 BK1001; have hcz27_2 := bc5_2 BK1001; have hcz27_3 := bc5_3 BK1001; have hcz27_4 := bc5_4 BK1001; have hfz27_0 := bf_ BK1001 0; have hfz27_1 := bf_ BK1001 1; have hfz27_2 := bf_ BK1001 2; have hfz27_3 := bf_ BK1001 3; have hfz27_4 := bf_ BK1001 4) | ((with_reducible refine gate_callee (f := 95) rfl ?_); refine goesL_ (some 5) rfl rfl Try.func95 (by kernel_rfl) rfl #[.slice A0_0 l0_0.length c0_0] rfl ag_ ?_; (with_reducible refine (spec_l5Bare.calls k _ _ l0_0 true _ ?side1 ?side2 A2.out).mono ?_); (case side1 => exact cc_ (Kd.C_below HR0_0.out HB.out)); (case side2 => exact HC0_0.out); rintro e w28 ⟨rfl, hb⟩; refine ⟨_, rfl, ?_⟩; have n0_ := am_ (blk_below (g := gb1001) (vk_ BK1001) hb); have n1_ := am_ (below_step bg_ hb); clear BK1001; clear HB; have BK1001 := n0_; have HB := n1_; clear n0_ n1_; (try clear hb); (try clear hb2); (try clear hk); (try clear hi); have hcz29_0 := bc5_0 BK1001; have hcz29_1 := bc5_1 BK1001; have hcz29_2 := bc5_2 BK1001; have hcz29_3 := bc5_3 BK1001; have hcz29_4 := bc5_4 BK1001; have hfz29_0 := bf_ BK1001 0; have hfz29_1 := bf_ BK1001 1; have hfz29_2 := bf_ BK1001 2; have hfz29_3 := bf_ BK1001 3; have hfz29_4 := bf_ BK1001 4))
   go_ret
   exact ⟨rf_, bg_⟩
 ·replace c3 := Bool.eq_false_iff.mpr c3
  subst c3
  have H1 : (some false) = some r := by rw [if_neg (show ¬ (false = true) by decide)] at H; exact H
  clear H
  have H := H1
  clear H1
  obtain rfl := Option.some.inj H
  go_enter Try.func42, Try.ntmps42
  go_wp2_with (first | ((with_reducible refine gate_dst (N := 1) rfl ?_); refine box_event ?hg (N := 1) ?hd (cs := #[.slice A0_0 l0_0.length c0_0, .int .i64 a0_1, .int .i64 a0_2, .bool a0_3, .slice A0_4 l0_4.length c0_4]) (t := 60) ?hr ?_; (case hd => rfl); (case hg => rfl); (case hr => first | (go_simp; done) | (go_simp; rfl)); intro gb1001 hg w30 hbox hb; have n0_ := am_ (below_step bl_ hb); have n1_ := am_ (hbox); have n2_ := am_ (gs_ hg : w.heap.size ≤ gb1001); have n3_ := n2_; clear HB; have HB := n0_; have BK1001 := n1_; have GW1001 := n2_; have GE1001 := n3_; clear n0_ n1_ n2_ n3_; clear hb hbox hg; have hcz31_0 := bc5_0 BK1001; have hcz31_1 := bc5_1 BK1001; have hcz31_2 := bc5_2 BK1001; have hcz31_3 := bc5_3 BK1001; have hcz31_4 := bc5_4 BK1001; have hfz31_0 := bf_ BK1001 0; have hfz31_1 := bf_ BK1001 1; have hfz31_2 := bf_ BK1001 2; have hfz31_3 := bf_ BK1001 3; have hfz31_4 := bf_ BK1001 4) | ((with_reducible refine gate_callee (f := 95) rfl ?_); refine goesL_ (some 5) rfl rfl Try.func95 (by kernel_rfl) rfl #[.slice A0_0 l0_0.length c0_0] rfl ag_ ?_; (with_reducible refine (spec_l5Bare.calls k _ _ l0_0 false _ ?side1 ?side2 A2.out).mono ?_); (case side1 => exact cc_ (Kd.C_below HR0_0.out HB.out)); (case side2 => exact HC0_0.out); rintro e w32 ⟨rfl, hb⟩; refine ⟨_, rfl, ?_⟩; have n0_ := am_ (blk_below (g := gb1001) (vk_ BK1001) hb); have n1_ := am_ (below_step bg_ hb); clear BK1001; clear HB; have BK1001 := n0_; have HB := n1_; clear n0_ n1_; (try clear hb); (try clear hb2); (try clear hk); (try clear hi)))
  go_ret
  exact ⟨rf_, bg_⟩

/-! ### laws_toRelabelS: function 97 -/
def laws_toRelabelS.l0 : Nat → List (S39) → List (S42) → Int → Option ((List (S42)))
 | 0, _, _, _ => none
 | k + 1, x0, x3, x4 => if x4 < (x0.length : Int) then (if 0 ≤ x4 then ((laws_toRelabel.f k ((rd_T39 x0 x4).f0) ((rd_T39 x0 x4).f1) ((rd_T39 x0 x4).f2) ((rd_T39 x0 x4).f3) ((rd_T39 x0 x4).f4) ((rd_T39 x0 x4).f5) ((rd_T39 x0 x4).f6)).bind fun bt1005 => (if x4 < (x3.length : Int) then (laws_toRelabelS.l0 k x0 (x3.set (x4 : Int).toNat (⟨bt1005.1, bt1005.2.1, bt1005.2.2.1, bt1005.2.2.2.1, bt1005.2.2.2.2.1, bt1005.2.2.2.2.2.1, bt1005.2.2.2.2.2.2⟩ : S42)) (wrap64 (x4 + 1))) else (none))) else (none)) else (some x3)
def laws_toRelabelS.f (k : Nat) (l0 : List (S39)) : Option ((List (S42))) := if 0 ≤ (l0.length : Int) then (if ((l0.length : Int) : Int).toNat ≤ 2706490160679 then (laws_toRelabelS.l0 k l0 (List.replicate ((l0.length : Int) : Int).toNat z42) 0) else (none)) else (none)
theorem laws_toRelabelS.mono_l : ∀ k, (∀ y0 y1 y2, LeO (laws_toRelabelS.l0 k y0 y1 y2) (laws_toRelabelS.l0 (k + 1) y0 y1 y2))
 | 0 => fun _ _ _ r h => by simp [laws_toRelabelS.l0] at h
 | k + 1 => by
  have ih0 := laws_toRelabelS.mono_l k
  ·intro y0 y1 y2
   unfold laws_toRelabelS.l0
   repeat' first
   | with_reducible first | exact ih0 _ _ _ | exact laws_toRelabel.mono _ _ _ _ _ _ _ _ | exact LeO.refl _ | exact LeO.none _ | refine LeO.ite ?_ ?_ | refine LeO.bind ?_ (fun _ => ?_)
   | exact ih0 _ _ _
   | exact laws_toRelabel.mono _ _ _ _ _ _ _ _
   | exact LeO.none _
   | refine LeO.ite ?_ ?_
   | refine LeO.bind ?_ (fun _ => ?_)
theorem laws_toRelabelS.mono : ∀ a0 k, LeO (laws_toRelabelS.f k a0) (laws_toRelabelS.f (k + 1) a0) := by
 intro a0 k
 have ih0 := laws_toRelabelS.mono_l k
 unfold laws_toRelabelS.f
 repeat' first
   | with_reducible first | exact ih0 _ _ _ | exact laws_toRelabel.mono _ _ _ _ _ _ _ _ | exact LeO.refl _ | exact LeO.none _ | refine LeO.ite ?_ ?_ | refine LeO.bind ?_ (fun _ => ?_)
   | exact ih0 _ _ _
   | exact laws_toRelabel.mono _ _ _ _ _ _ _ _
   | exact LeO.none _
   | refine LeO.ite ?_ ?_
   | refine LeO.bind ?_ (fun _ => ?_)
set_option maxHeartbeats 8000000 in
set_option maxRecDepth 100000 in
theorem laws_toRelabelS.calls (k : Nat) (A0 : Option Addr) (c0 : Nat) (l0 : List (S39)) (r : List (S42)) (w : World) (hr0 : Kd.C k39 w A0 l0.length l0) (hc0 : l0.length ≤ c0) (h : laws_toRelabelS.f k l0 = some r) :
  Calls Try.prog 97 #[.slice A0 l0.length c0] w fun e w' => ∃ v0_ : Value, e = .returned (v0_) ∧ Kd.S k42 42 w' w.heap.size (fun _ => True) v0_ r ∧ Below w.heap.size w w' := by
 have hu39 := Try.underlying39
 have hu42 := Try.underlying42
 have HR0 := am_ hr0
 have HC0 := am_ hc0
 clear hr0 hc0
 have HB := am_ (Below.refl w.heap.size w)
 have H : (if 0 ≤ (l0.length : Int) then (if ((l0.length : Int) : Int).toNat ≤ 2706490160679 then (laws_toRelabelS.l0 k l0 (List.replicate ((l0.length : Int) : Int).toNat z42) 0) else (none)) else (none)) = some r := h
 clear h
 by_cases c2 : 0 ≤ (l0.length : Int)
 ·rw [if_pos c2] at H
  have c2b0 := eq_true c2
  have c2b1 : decide (0 ≤ (l0.length : Int)) = true := decide_eq_true c2
  clear c2
  by_cases c3 : ((l0.length : Int) : Int).toNat ≤ 2706490160679
  ·rw [if_pos c3] at H
   have c3b0 := eq_true c3
   have c3b1 : decide (((l0.length : Int) : Int).toNat ≤ 2706490160679) = true := decide_eq_true c3
   clear c3
   obtain ⟨y1001, hy1001⟩ : ∃ y_ : List (S42), y_ = (List.replicate ((l0.length : Int) : Int).toNat z42) := ⟨_, rfl⟩
   replace H : (laws_toRelabelS.l0 k l0 y1001 0) = some r := by first | (rw [hy1001]; with_reducible exact H) | (have H2_ := (Option.bind_some _ _).symm.trans H; rw [hy1001]; with_reducible exact H2_) | (have H2_ := (Option.bind_some _ _).symm.trans H; with_reducible exact H2_) | with_reducible exact H | (rw [hy1001]; exact H) | exact H
   have Ny1001 := am_ hy1001
   clear hy1001
   have H' := am_ H
   clear H
   go_enter Try.func97, Try.ntmps97
   go_wp2_with (first | ((with_reducible refine gate_dst (N := 7) rfl ?_); refine Kd.S_make k42 _ 42 rfl (N := 7) rfl 58 _ _ rfl (l0.length : Int) rfl rfl Try.underlying58 (.agg #[(.int .i64 0), (.slice none 0 0), (.string ⟨#[]⟩), (.string ⟨#[]⟩), (.string ⟨#[]⟩), (.string ⟨#[]⟩), (.int .i64 0)]) 104 info42 rfl (by decide) (by omega) z42 (ok := fun _ => True) (okp := fun _ => True) (k42_mkM _ _ _ z42 (Kd.R_nil _ _ _ _ _)) (fun _ hk => hk) trivial (od_) (Nat.le_trans (Nat.mul_le_mul_right _ (od_ : (l0.length : Int).toNat ≤ 2706490160679)) (by omega)) (Below.refl _ _) (Nat.le_refl _) ?_; intro v1002 w4 ho5 hb hg_ hnew_; clear hg_ hnew_; (first | rw [← Ny1001.out] at ho5 | (simp only [Int.reduceToNat] at ho5; rw [← Ny1001.out] at ho5)); have n0_ := am_ (Kd.S_lower ho5 (below_size bl_)); have n1_ := am_ (below_step bl_ hb); clear HB; have HO1003 := n0_; have HB := n1_; clear n0_ n1_; clear hb ho5))
   go_loopg [4] k (fun kq v4 w' => ∃ (x3_1 : List (S42)) (x4_1 : Int), v4 = .int .i64 x4_1 ∧ Aside0 (laws_toRelabelS.l0 kq l0 x3_1 x4_1 = some r) ∧ Aside0 (kq ≤ k) ∧ Aside0 (Kd.S k42 42 w' w.heap.size (fun _ => True) v1002 x3_1) ∧ Aside0 (Below w.heap.size w w'))
   case atStart => exact ⟨(y1001), (0), rs_, H', ⟨Nat.le_refl _⟩, ⟨by (with_reducible repeat (first | apply Kd.S_alloc | apply Kd.S_drewN | apply Kd.S_drew)); exact HO1003.out⟩, ⟨bl_⟩⟩
   case round =>
    clear H'
    try clear c2
    try clear c2b0
    try clear c2b1
    try clear p2
    try clear c3
    try clear c3b0
    try clear c3b1
    obtain ⟨x3_1, x4_1, rfl, HA, HK1, HO_3, HB⟩ := hrel
    cases gk with
    | zero => exact absurd HA.out (by simp [laws_toRelabelS.l0])
    | succ k1 =>
     have H := HA.out
     clear HA
     simp only [laws_toRelabelS.l0] at H
     by_cases c6 : x4_1 < (l0.length : Int)
     ·rw [if_pos c6] at H
      have c6b0 : decide (x4_1 < (l0.length : Int)) = true := decide_eq_true c6
      clear c6
      by_cases c7 : 0 ≤ x4_1
      ·rw [if_pos c7] at H
       have c7b0 : decide (0 ≤ x4_1) = true := decide_eq_true c7
       clear c7
       replace H := Option.bind_eq_some_iff.mp H
       obtain ⟨⟨t1005, t1006, t1009, t1010, t1011, t1012, t1013⟩, A80, H⟩ := H
       replace H : (if x4_1 < (x3_1.length : Int) then (laws_toRelabelS.l0 k1 l0 (x3_1.set (x4_1 : Int).toNat (⟨t1005, t1006, t1009, t1010, t1011, t1012, t1013⟩ : S42)) (wrap64 (x4_1 + 1))) else (none)) = some r := H
       have A8 := am_ A80
       clear A80
       by_cases c9 : x4_1 < (x3_1.length : Int)
       ·rw [if_pos c9] at H
        have c9b0 : decide (x4_1 < (x3_1.length : Int)) = true := decide_eq_true c9
        clear c9
        obtain ⟨y1014, hy1014⟩ : ∃ y_ : List (S42), y_ = (x3_1.set (x4_1 : Int).toNat (⟨t1005, t1006, t1009, t1010, t1011, t1012, t1013⟩ : S42)) := ⟨_, rfl⟩
        replace H : (laws_toRelabelS.l0 k1 l0 y1014 (wrap64 (x4_1 + 1))) = some r := by first | (rw [hy1014]; with_reducible exact H) | (have H2_ := (Option.bind_some _ _).symm.trans H; rw [hy1014]; with_reducible exact H2_) | (have H2_ := (Option.bind_some _ _).symm.trans H; with_reducible exact H2_) | with_reducible exact H | (rw [hy1014]; exact H) | exact H
        have Ny1014 := am_ hy1014
        clear hy1014
        have H' := am_ H
        clear H
        have p1004 : 0 ≤ (x4_1 : Int) := od_
        have q1004 : x4_1 < (l0.length : Int) := od_
        obtain ⟨ad1004, A1004_1, c1004_1, e1004, hx1004_0, hx1004_1, hx1004_2, hx1004_3, hx1004_4, hx1004_5, hx1004_6, hl1004_1, hi1004_1⟩ := at_T39 HR0.out x4_1 p1004 q1004
        cases e1004
        replace hx1004_0 := kp_ HB hx1004_0
        replace hx1004_1 := kp_ HB hx1004_1
        replace hx1004_2 := kp_ HB hx1004_2
        replace hx1004_3 := kp_ HB hx1004_3
        replace hx1004_4 := kp_ HB hx1004_4
        replace hx1004_5 := kp_ HB hx1004_5
        replace hx1004_6 := kp_ HB hx1004_6
        have HR1004_1 := am_ hi1004_1
        have HC1004_1 := am_ hl1004_1
        clear hi1004_1 hl1004_1
        replace p1004 := eq_true p1004
        replace q1004 := eq_true q1004
        go_wp2_with (first | ((with_reducible refine gate_callee (f := 33) rfl ?_); refine goesL_ (some 20) rfl rfl Try.func33 (by kernel_rfl) rfl #[.agg #[.int .i64 ((rd_T39 l0 x4_1).f0), .slice A1004_1 ((rd_T39 l0 x4_1).f1).length c1004_1, .string ((rd_T39 l0 x4_1).f2), .string ((rd_T39 l0 x4_1).f3), .string ((rd_T39 l0 x4_1).f4), .string ((rd_T39 l0 x4_1).f5), .int .i64 ((rd_T39 l0 x4_1).f6)]] rfl ag_ ?_; (with_reducible refine (laws_toRelabel.calls k1 ((rd_T39 l0 x4_1).f0) _ _ ((rd_T39 l0 x4_1).f1) ((rd_T39 l0 x4_1).f2) ((rd_T39 l0 x4_1).f3) ((rd_T39 l0 x4_1).f4) ((rd_T39 l0 x4_1).f5) ((rd_T39 l0 x4_1).f6) t1005 t1006 t1009 t1010 t1011 t1012 t1013 _ ?side1 ?side2 A8.out).mono ?_); (case side1 => exact cc_ (Kd.C_below HR1004_1.out HB.out)); (case side2 => exact HC1004_1.out); rintro e w11 ⟨v1007, rfl, ho0, hb⟩; refine ⟨_, rfl, ?_⟩; have n0_ := am_ (Kd.S_elder' (by (with_reducible repeat (first | apply Kd.S_alloc | apply Kd.S_drewN | apply Kd.S_drew)); exact HO_3.out) (Kd.R_base ho0) hb); have n1_ := am_ (Kd.R_lower ho0 (below_size bl_)); have n2_ := am_ (below_step bl_ hb); clear HO_3; clear HB; have HO_3 := n0_; have HO1008 := n1_; have HB := n2_; clear n0_ n1_ n2_; (try clear hb); (try clear hb2); (try clear hk); (try clear hi); (try clear ho0); have p10 : 0 ≤ (x4_1 : Int) := od_; have q10 : (x4_1 : Int) < ((x3_1.length : Int) : Int) := od_; obtain ⟨go10, co10, eo10, gb10, gl10, cl10, HG10⟩ := Kd.S_form HO_3.out (by omega); (first | cases eo10 | (injection eo10 with ea_ en_ ec_; (first | subst ea_ | (injection ea_ with ea_; subst ea_)); subst ec_; clear en_)); have GB10 := am_ gb10; have GG10 := am_ HG10; clear gb10 gl10 HG10; obtain ⟨_, ce10, hcl10, hM10, hcc10, hfr10, _, _⟩ := Kd.S_elem HO_3.out z42 (x4_1 : Int) p10 q10; obtain ⟨ve10_1, rfl, ge10_1⟩ := k42_openM hM10; have hx10_0 : w11.cell? ⟨go10, (x4_1 : Int).toNat * 7, none⟩ = some (.int .i64 ((rd_T42 x3_1 x4_1).f0)) := hcc10 0 _ rfl; have hx10_1 : w11.cell? ⟨go10, (x4_1 : Int).toNat * 7 + 1, none⟩ = some (ve10_1) := hcc10 1 _ rfl; have hx10_2 : w11.cell? ⟨go10, (x4_1 : Int).toNat * 7 + 2, none⟩ = some (.string ((rd_T42 x3_1 x4_1).f2)) := hcc10 2 _ rfl; have hx10_3 : w11.cell? ⟨go10, (x4_1 : Int).toNat * 7 + 3, none⟩ = some (.string ((rd_T42 x3_1 x4_1).f3)) := hcc10 3 _ rfl; have hx10_4 : w11.cell? ⟨go10, (x4_1 : Int).toNat * 7 + 4, none⟩ = some (.string ((rd_T42 x3_1 x4_1).f4)) := hcc10 4 _ rfl; have hx10_5 : w11.cell? ⟨go10, (x4_1 : Int).toNat * 7 + 5, none⟩ = some (.string ((rd_T42 x3_1 x4_1).f5)) := hcc10 5 _ rfl; have hx10_6 : w11.cell? ⟨go10, (x4_1 : Int).toNat * 7 + 6, none⟩ = some (.int .i64 ((rd_T42 x3_1 x4_1).f6)) := hcc10 6 _ rfl; have hf10_0 : w11.frozen? ⟨go10, (x4_1 : Int).toNat * 7, none⟩ = false := hfr10 0; have hf10_1 : w11.frozen? ⟨go10, (x4_1 : Int).toNat * 7 + 1, none⟩ = false := hfr10 1; have hf10_2 : w11.frozen? ⟨go10, (x4_1 : Int).toNat * 7 + 2, none⟩ = false := hfr10 2; have hf10_3 : w11.frozen? ⟨go10, (x4_1 : Int).toNat * 7 + 3, none⟩ = false := hfr10 3; have hf10_4 : w11.frozen? ⟨go10, (x4_1 : Int).toNat * 7 + 4, none⟩ = false := hfr10 4; have hf10_5 : w11.frozen? ⟨go10, (x4_1 : Int).toNat * 7 + 5, none⟩ = false := hfr10 5; have hf10_6 : w11.frozen? ⟨go10, (x4_1 : Int).toNat * 7 + 6, none⟩ = false := hfr10 6; clear hcl10 hcc10 hfr10 hM10; replace p10 := eq_true p10; replace q10 := eq_true q10; have n_ := am_ (Kd.S_mono (ok' := (fun k_ => some k_ ≠ (v1007 : Value).ownBlock)) HO_3.out (fun k_ hk => hk.2)); clear HO_3; have HO_3 := n_; clear n_; have HX12 := am_ (show Kd.S k42 42 w11 w.heap.size (fun k_ => ((fun _ => True)) k_ ∧ ¬ ((fun k_ => some k_ = (v1007 : Value).ownBlock)) k_) (.slice (some ⟨go10, 0, none⟩) x3_1.length co10) x3_1 from (by (with_reducible repeat (first | apply Kd.S_alloc | apply Kd.S_drewN | apply Kd.S_drew)); exact Kd.S_mono HO_3.out (fun k_ hk => ⟨trivial, fun e_ => hk e_⟩))); obtain ⟨oki12, ce12, hcl12, hM12, hcc12, hfr12, hoki12, hH12⟩ := Kd.S_elem HX12.out z42 (x4_1 : Int) (od_) (by have h_ : (x4_1 : Int) < ((x3_1.length : Int) : Int) := od_; first | exact h_ | (have e_ := (Kd.S_reads' HO_3.out).1; omega) | simpa using h_); obtain ⟨ve12_1, rfl, ge12_1⟩ := k42_openM hM12; have HP12 := Kd.S_seg hH12 (od_) (by have h_ : (x4_1 : Int) < ((x3_1.length : Int) : Int) := od_; first | exact h_ | (have e_ := (Kd.S_reads' HO_3.out).1; omega) | simpa using h_) (seg := [.int .i64 t1005, v1007, .string t1009, .string t1010, .string t1011, .string t1012, .int .i64 t1013]) (j := 0) (show 7 ≤ 7 from by decide) (x' := (⟨t1005, t1006, t1009, t1010, t1011, t1012, t1013⟩ : S42)) (k42_mkM _ _ _ (⟨t1005, t1006, t1009, t1010, t1011, t1012, t1013⟩ : S42) (Kd.R_mono (Kd.R_tight rfl (Kd.R_mono (ok' := fun k_ => ((fun _ => True)) k_ ∧ k_ ≠ go10) (Kd.R_apart' (HO1008.out) (Kd.S_typed HO_3.out) (by decide)) (fun k_ hk => ⟨trivial, fun e_ => (hk.2) (by rw [e_]; rfl)⟩))) (fun _ h_ => Or.inr (h_)))) (fun _ hk => hk) (fun k_ hk_ => ((Kd.R_mono (ok' := fun k_ => ((fun _ => True)) k_ ∧ k_ ≠ go10) (Kd.R_apart' (HO1008.out) (Kd.S_typed HO_3.out) (by decide)) (fun k_ hk => ⟨trivial, fun e_ => (hk.2) (by rw [e_]; rfl)⟩))).1 k_ hk_.symm); have hx12_0 := hcc12 0 _ rfl; (try simp only [show (k42).sz = 7 from rfl, Nat.mul_one, Nat.add_zero] at hx12_0); have hf12_0 := hfr12 0; (try simp only [show (k42).sz = 7 from rfl, Nat.mul_one, Nat.add_zero] at hf12_0); have hx12_1 := hcc12 1 _ rfl; (try simp only [show (k42).sz = 7 from rfl, Nat.mul_one, Nat.add_zero] at hx12_1); have hf12_1 := hfr12 1; (try simp only [show (k42).sz = 7 from rfl, Nat.mul_one, Nat.add_zero] at hf12_1); have hx12_2 := hcc12 2 _ rfl; (try simp only [show (k42).sz = 7 from rfl, Nat.mul_one, Nat.add_zero] at hx12_2); have hf12_2 := hfr12 2; (try simp only [show (k42).sz = 7 from rfl, Nat.mul_one, Nat.add_zero] at hf12_2); have hx12_3 := hcc12 3 _ rfl; (try simp only [show (k42).sz = 7 from rfl, Nat.mul_one, Nat.add_zero] at hx12_3); have hf12_3 := hfr12 3; (try simp only [show (k42).sz = 7 from rfl, Nat.mul_one, Nat.add_zero] at hf12_3); have hx12_4 := hcc12 4 _ rfl; (try simp only [show (k42).sz = 7 from rfl, Nat.mul_one, Nat.add_zero] at hx12_4); have hf12_4 := hfr12 4; (try simp only [show (k42).sz = 7 from rfl, Nat.mul_one, Nat.add_zero] at hf12_4); have hx12_5 := hcc12 5 _ rfl; (try simp only [show (k42).sz = 7 from rfl, Nat.mul_one, Nat.add_zero] at hx12_5); have hf12_5 := hfr12 5; (try simp only [show (k42).sz = 7 from rfl, Nat.mul_one, Nat.add_zero] at hf12_5); have hx12_6 := hcc12 6 _ rfl; (try simp only [show (k42).sz = 7 from rfl, Nat.mul_one, Nat.add_zero] at hx12_6); have hf12_6 := hfr12 6; (try simp only [show (k42).sz = 7 from rfl, Nat.mul_one, Nat.add_zero] at hf12_6); clear hcl12 hcc12 hfr12 hM12 hoki12 hH12) | ((with_reducible refine gate_store (t := 42) (p := 21) rfl ?_); refine store_event (t := 42) (p := 21) (v := ?vo_w13) (w1 := (((((((w11.setCell ⟨go10, (x4_1 : Int).toNat * 7, none⟩ (.int .i64 t1005)).setCell ⟨go10, (x4_1 : Int).toNat * 7 + 1, none⟩ (v1007)).setCell ⟨go10, (x4_1 : Int).toNat * 7 + 2, none⟩ (.string t1009)).setCell ⟨go10, (x4_1 : Int).toNat * 7 + 3, none⟩ (.string t1010)).setCell ⟨go10, (x4_1 : Int).toNat * 7 + 4, none⟩ (.string t1011)).setCell ⟨go10, (x4_1 : Int).toNat * 7 + 5, none⟩ (.string t1012)).setCell ⟨go10, (x4_1 : Int).toNat * 7 + 6, none⟩ (.int .i64 t1013))) ?hg ?ho ?hn ?hr ?_; (case ho => rfl); (case hg => rfl); (case hn => rfl); (case hr => first | (go_simp; done) | (go_simp; rfl) | ((try (obtain ⟨_, _, e_⟩ := Kd.R_slice HO1003.out; subst e_)); (try (obtain ⟨_, _, e_⟩ := Kd.R_slice HO1008.out; subst e_)); go_simp; first | done | rfl)); intro w13 hw; have hg : w11.grownBy w13 (some go10) := (by rw [hw]; exact HP12.2); have hp_ : Kd.S k42 42 w13 w.heap.size (fun _ => True) (.slice (some ⟨go10, 0, none⟩) x3_1.length co10) y1014 := (by rw [hw, Ny1014.out]; exact HP12.1); clear HP12; have n0_ := am_ (hp_); have n1_ := am_ ((by rw [hw]; exact below_set (below_set (below_set (below_set (below_set (below_set (below_set (HB.out) GB10.out) GB10.out) GB10.out) GB10.out) GB10.out) GB10.out) GB10.out : Below w.heap.size w w13)); clear HO_3; clear HB; clear HO1008; have HO_3 := n0_; have HB := n1_; clear n0_ n1_; clear hg hw hp_))
        go_roundg k1
        case measure => have := HK1.out; omega
        case rel => exact ⟨(y1014), (wrap64 (x4_1 + 1)), rs_, H', ⟨by have := HK1.out; omega⟩, ⟨by (with_reducible repeat (first | apply Kd.S_alloc | apply Kd.S_drewN | apply Kd.S_drew)); exact HO_3.out⟩, ⟨bl_⟩⟩
       ·rw [if_neg c9] at H
        exact absurd H (by simp)
      ·rw [if_neg c7] at H
       exact absurd H (by simp)
     ·rw [if_neg c6] at H
      have c6b0 : decide (x4_1 < (l0.length : Int)) = false := decide_eq_false c6
      clear c6
      obtain rfl := Option.some.inj H
      go_wp2
      go_ret
      exact ⟨_, rf_, by (with_reducible repeat (first | apply Kd.S_alloc | apply Kd.S_drewN | apply Kd.S_drew)); exact HO_3.out, bl_⟩
  ·rw [if_neg c3] at H
   exact absurd H (by simp)
 ·rw [if_neg c2] at H
  exact absurd H (by simp)

/-! ### laws_toTarget: function 43 -/
def laws_toTarget.f (k : Nat) (l0_0 : List (S103)) (a0_1 : Int) (a0_2 : Int) (a0_3 : Bool) (l0_4 : List (S39)) : Option ((List (S105)) × Int × Int × Bool × (List (S42))) := (laws_toLabelS.f k l0_0).bind fun t1004 => ((laws_toRelabelS.f k l0_4).bind fun t1007 => (some (t1004, a0_1, a0_2, a0_3, t1007)))
theorem laws_toTarget.mono : ∀ a0 a1 a2 a3 a4 k, LeO (laws_toTarget.f k a0 a1 a2 a3 a4) (laws_toTarget.f (k + 1) a0 a1 a2 a3 a4) := by
 intro a0 a1 a2 a3 a4 k
 unfold laws_toTarget.f
 repeat' first
   | with_reducible first | exact laws_toLabelS.mono _ _ | exact laws_toRelabelS.mono _ _ | exact LeO.refl _ | exact LeO.none _ | refine LeO.ite ?_ ?_ | refine LeO.bind ?_ (fun _ => ?_)
   | exact laws_toLabelS.mono _ _
   | exact laws_toRelabelS.mono _ _
   | exact LeO.none _
   | refine LeO.ite ?_ ?_
   | refine LeO.bind ?_ (fun _ => ?_)
set_option maxHeartbeats 8000000 in
set_option maxRecDepth 100000 in
theorem laws_toTarget.calls (k : Nat) (A0_0 : Option Addr) (c0_0 : Nat) (l0_0 : List (S103)) (a0_1 : Int) (a0_2 : Int) (a0_3 : Bool) (A0_4 : Option Addr) (c0_4 : Nat) (l0_4 : List (S39)) (r1 : List (S105)) (r2 : Int) (r3 : Int) (r4 : Bool) (r5 : List (S42)) (w : World) (hr0_0 : Kd.C k103 w A0_0 l0_0.length l0_0) (hc0_0 : l0_0.length ≤ c0_0) (hr0_4 : Kd.C k39 w A0_4 l0_4.length l0_4) (hc0_4 : l0_4.length ≤ c0_4) (h : laws_toTarget.f k l0_0 a0_1 a0_2 a0_3 l0_4 = some (r1, r2, r3, r4, r5)) :
  Calls Try.prog 43 #[.agg #[.slice A0_0 l0_0.length c0_0, .int .i64 a0_1, .int .i64 a0_2, .bool a0_3, .slice A0_4 l0_4.length c0_4]] w fun e w' => ∃ v0_ v4_ : Value, e = .returned (.agg #[v0_, .int .i64 r2, .int .i64 r3, .bool r4, v4_]) ∧ Kd.R k105 105 w' w.heap.size (fun _ => True) v0_ r1 ∧ Kd.S k42 42 w' w.heap.size (fun _ => True) v4_ r5 ∧ Below w.heap.size w w' := by
 have hu55 := Try.underlying55
 have hu60 := Try.underlying60
 have HR0_0 := am_ hr0_0
 have HC0_0 := am_ hc0_0
 clear hr0_0 hc0_0
 have HR0_4 := am_ hr0_4
 have HC0_4 := am_ hc0_4
 clear hr0_4 hc0_4
 have HB := am_ (Below.refl w.heap.size w)
 have H : ((laws_toLabelS.f k l0_0).bind fun t1004 => ((laws_toRelabelS.f k l0_4).bind fun t1007 => (some (t1004, a0_1, a0_2, a0_3, t1007)))) = some (r1, r2, r3, r4, r5) := h
 clear h
 replace H := Option.bind_eq_some_iff.mp H
 obtain ⟨t1004, A20, H⟩ := H
 replace H : ((laws_toRelabelS.f k l0_4).bind fun t1007 => (some (t1004, a0_1, a0_2, a0_3, t1007))) = some (r1, r2, r3, r4, r5) := H
 have A2 := am_ A20
 clear A20
 replace H := Option.bind_eq_some_iff.mp H
 obtain ⟨t1007, A30, H⟩ := H
 replace H : (some (t1004, a0_1, a0_2, a0_3, t1007)) = some (r1, r2, r3, r4, r5) := H
 have A3 := am_ A30
 clear A30
 simp only [Option.some.injEq, Prod.mk.injEq] at H
 obtain ⟨rfl, rfl, rfl, rfl, rfl⟩ := H
 go_enter Try.func43, Try.ntmps43
 go_wp2_with (first | ((with_reducible refine gate_dst (N := 1) rfl ?_); refine box_event ?hg (N := 1) ?hd (cs := #[.slice A0_0 l0_0.length c0_0, .int .i64 a0_1, .int .i64 a0_2, .bool a0_3, .slice A0_4 l0_4.length c0_4]) (t := 55) ?hr ?_; (case hd => rfl); (case hg => rfl); (case hr => first | (go_simp; done) | (go_simp; rfl)); intro gb1001 hg w4 hbox hb; have n0_ := am_ (below_step bl_ hb); have n1_ := am_ (hbox); have n2_ := am_ (gs_ hg : w.heap.size ≤ gb1001); have n3_ := n2_; clear HB; have HB := n0_; have BK1001 := n1_; have GW1001 := n2_; have GE1001 := n3_; clear n0_ n1_ n2_ n3_; clear hb hbox hg) | ((with_reducible refine gate_dst (N := 2) rfl ?_); refine box_event ?hg (N := 2) ?hd (cs := #[.slice none 0 0, .int .i64 0, .int .i64 0, .bool false, .slice none 0 0]) (t := 60) ?hr ?_; (case hd => rfl); (case hg => rfl); (case hr => first | (go_simp; done) | (go_simp; rfl)); intro gb1002 hg w5 hbox hb; have n0_ := am_ (blk_below (g := gb1001) (vk_ BK1001) hb); have n1_ := am_ (below_step bg_ hb); have n2_ := am_ (hbox); have n3_ := am_ (gg_ hg : w.heap.size ≤ gb1002); have n4_ := n3_; have n5_ := am_ ((by rw [hg]; exact Nat.ne_of_lt (blk_lt (g := gb1001) (o := .cells #[.slice A0_0 l0_0.length c0_0, .int .i64 a0_1, .int .i64 a0_2, .bool a0_3, .slice A0_4 l0_4.length c0_4] 55 (0, 0)) (vk_ BK1001)) : gb1001 ≠ gb1002)); have n6_ := am_ ((by rw [hg]; exact Nat.ne_of_gt (blk_lt (g := gb1001) (o := .cells #[.slice A0_0 l0_0.length c0_0, .int .i64 a0_1, .int .i64 a0_2, .bool a0_3, .slice A0_4 l0_4.length c0_4] 55 (0, 0)) (vk_ BK1001)) : gb1002 ≠ gb1001)); clear BK1001; clear HB; have BK1001 := n0_; have HB := n1_; have BK1002 := n2_; have GW1002 := n3_; have GE1002 := n4_; have NB1001_1002 := n5_; have NB1002_1001 := n6_; clear n0_ n1_ n2_ n3_ n4_ n5_ n6_; clear hb hbox hg) | ((with_reducible refine gate_dst (N := 3) rfl ?_); refine box_event ?hg (N := 3) ?hd (cs := #[.slice none 0 0, .int .i64 0, .int .i64 0, .bool false, .slice none 0 0]) (t := 60) ?hr ?_; (case hd => rfl); (case hg => rfl); (case hr => first | (go_simp; done) | (go_simp; rfl)); intro gb1003 hg w6 hbox hb; have n0_ := am_ (blk_below (g := gb1001) (vk_ BK1001) hb); have n1_ := am_ (blk_below (g := gb1002) (vk_ BK1002) hb); have n2_ := am_ (below_step bg_ hb); have n3_ := am_ (hbox); have n4_ := am_ (gg_ hg : w.heap.size ≤ gb1003); have n5_ := n4_; have n6_ := am_ ((by rw [hg]; exact Nat.ne_of_lt (blk_lt (g := gb1001) (o := .cells #[.slice A0_0 l0_0.length c0_0, .int .i64 a0_1, .int .i64 a0_2, .bool a0_3, .slice A0_4 l0_4.length c0_4] 55 (0, 0)) (vk_ BK1001)) : gb1001 ≠ gb1003)); have n7_ := am_ ((by rw [hg]; exact Nat.ne_of_gt (blk_lt (g := gb1001) (o := .cells #[.slice A0_0 l0_0.length c0_0, .int .i64 a0_1, .int .i64 a0_2, .bool a0_3, .slice A0_4 l0_4.length c0_4] 55 (0, 0)) (vk_ BK1001)) : gb1003 ≠ gb1001)); have n8_ := am_ ((by rw [hg]; exact Nat.ne_of_lt (blk_lt (g := gb1002) (o := .cells #[.slice none 0 0, .int .i64 0, .int .i64 0, .bool false, .slice none 0 0] 60 (0, 0)) (vk_ BK1002)) : gb1002 ≠ gb1003)); have n9_ := am_ ((by rw [hg]; exact Nat.ne_of_gt (blk_lt (g := gb1002) (o := .cells #[.slice none 0 0, .int .i64 0, .int .i64 0, .bool false, .slice none 0 0] 60 (0, 0)) (vk_ BK1002)) : gb1003 ≠ gb1002)); clear BK1001; clear BK1002; clear HB; have BK1001 := n0_; have BK1002 := n1_; have HB := n2_; have BK1003 := n3_; have GW1003 := n4_; have GE1003 := n5_; have NB1001_1003 := n6_; have NB1003_1001 := n7_; have NB1002_1003 := n8_; have NB1003_1002 := n9_; clear n0_ n1_ n2_ n3_ n4_ n5_ n6_ n7_ n8_ n9_; clear hb hbox hg; have hnb7 := NB1001_1002.out; have hnc7 := NB1002_1001.out; have hnb8 := NB1001_1003.out; have hnc8 := NB1003_1001.out; have hcz9_0 := bc5_0 BK1001; have hcz9_1 := bc5_1 BK1001; have hcz9_2 := bc5_2 BK1001; have hcz9_3 := bc5_3 BK1001; have hcz9_4 := bc5_4 BK1001; have hfz9_0 := bf_ BK1001 0; have hfz9_1 := bf_ BK1001 1; have hfz9_2 := bf_ BK1001 2; have hfz9_3 := bf_ BK1001 3; have hfz9_4 := bf_ BK1001 4) | ((with_reducible refine gate_callee (f := 38) rfl ?_); refine goesL_ (some 6) rfl rfl Try.func38 (by kernel_rfl) rfl #[.slice A0_0 l0_0.length c0_0] rfl ag_ ?_; (with_reducible refine (laws_toLabelS.calls k _ _ l0_0 t1004 _ ?side1 ?side2 A2.out).mono ?_); (case side1 => exact cc_ (Kd.C_below HR0_0.out HB.out)); (case side2 => exact HC0_0.out); rintro e w10 ⟨v1005, rfl, ho0, hb⟩; refine ⟨_, rfl, ?_⟩; have n0_ := am_ (Kd.R_lower ho0 (below_size bg_)); have n1_ := am_ (blk_below (g := gb1001) (vk_ BK1001) hb); have n2_ := am_ (blk_below (g := gb1002) (vk_ BK1002) hb); have n3_ := am_ (blk_below (g := gb1003) (vk_ BK1003) hb); have n4_ := am_ (below_step bg_ hb); clear BK1001; clear BK1002; clear BK1003; clear HB; have HO1006 := n0_; have BK1001 := n1_; have BK1002 := n2_; have BK1003 := n3_; have HB := n4_; clear n0_ n1_ n2_ n3_ n4_; (try clear hb); (try clear hb2); (try clear hk); (try clear hi); (try clear ho0); obtain ⟨Ao11, co11, eo11⟩ := Kd.R_slice HO1006.out; subst eo11; have hnb12 := NB1003_1002.out; have hnc12 := NB1002_1003.out; have hcz13_0 := bc5_0 BK1003; have hcz13_1 := bc5_1 BK1003; have hcz13_2 := bc5_2 BK1003; have hcz13_3 := bc5_3 BK1003; have hcz13_4 := bc5_4 BK1003; have hfz13_0 := bf_ BK1003 0; have hfz13_1 := bf_ BK1003 1; have hfz13_2 := bf_ BK1003 2; have hfz13_3 := bf_ BK1003 3; have hfz13_4 := bf_ BK1003 4; have hcz14_0 := bc5_0 BK1001; have hcz14_1 := bc5_1 BK1001; have hcz14_2 := bc5_2 BK1001; have hcz14_3 := bc5_3 BK1001; have hcz14_4 := bc5_4 BK1001; have hfz14_0 := bf_ BK1001 0; have hfz14_1 := bf_ BK1001 1; have hfz14_2 := bf_ BK1001 2; have hfz14_3 := bf_ BK1001 3; have hfz14_4 := bf_ BK1001 4) | ((with_reducible refine gate_callee (f := 97) rfl ?_); refine goesL_ (some 19) rfl rfl Try.func97 (by kernel_rfl) rfl #[.slice A0_4 l0_4.length c0_4] rfl ag_ ?_; (with_reducible refine (laws_toRelabelS.calls k _ _ l0_4 t1007 _ ?side1 ?side2 A3.out).mono ?_); (case side1 => exact Kd.C_below HR0_4.out bg_); (case side2 => exact HC0_4.out); rintro e w15 ⟨v1008, rfl, ho0, hb⟩; refine ⟨_, rfl, ?_⟩; have n0_ := am_ (Kd.R_below (by (with_reducible repeat (first | apply Kd.R_alloc | apply Kd.R_drewN | apply Kd.R_drew)); exact (Kd.R_mono (Kd.R_far (p := ⟨gb1003, 3, none⟩) (Kd.R_far (p := ⟨gb1003, 2, none⟩) (Kd.R_far (p := ⟨gb1003, 1, none⟩) (Kd.R_far (p := ⟨gb1003, 0, none⟩) (Kd.R_types HO1006.out BK1003.out (by decide)) (fun _ hk => hk.2) (.slice Ao11 t1004.length co11)) (fun _ hk => hk.2) (.int .i64 a0_1)) (fun _ hk => hk.2) (.int .i64 a0_2)) (fun _ hk => hk.2) (.bool a0_3)) (fun _ h_ => h_.1))) hb); have n1_ := am_ (Kd.S_lower ho0 (below_size bg_)); have n2_ := am_ (blk_below (g := gb1001) (o := .cells #[.slice A0_0 l0_0.length c0_0, .int .i64 a0_1, .int .i64 a0_2, .bool a0_3, .slice A0_4 l0_4.length c0_4] 55 (0, 0)) (by (with_reducible repeat (first | refine blk_drewN ?_ _ | refine blk_drew ?_ | refine blk_alloc ?_ _)); refine blk_far ?_ NB1001_1003.out _; (with_reducible repeat (first | refine blk_drewN ?_ _ | refine blk_drew ?_ | refine blk_alloc ?_ _)); refine blk_far ?_ NB1001_1003.out _; (with_reducible repeat (first | refine blk_drewN ?_ _ | refine blk_drew ?_ | refine blk_alloc ?_ _)); refine blk_far ?_ NB1001_1003.out _; (with_reducible repeat (first | refine blk_drewN ?_ _ | refine blk_drew ?_ | refine blk_alloc ?_ _)); refine blk_far ?_ NB1001_1003.out _; (with_reducible repeat (first | refine blk_drewN ?_ _ | refine blk_drew ?_ | refine blk_alloc ?_ _)); exact BK1001.out) hb); have n3_ := am_ (blk_below (g := gb1002) (o := .cells #[.slice none 0 0, .int .i64 0, .int .i64 0, .bool false, .slice none 0 0] 60 (0, 0)) (by (with_reducible repeat (first | refine blk_drewN ?_ _ | refine blk_drew ?_ | refine blk_alloc ?_ _)); refine blk_far ?_ NB1002_1003.out _; (with_reducible repeat (first | refine blk_drewN ?_ _ | refine blk_drew ?_ | refine blk_alloc ?_ _)); refine blk_far ?_ NB1002_1003.out _; (with_reducible repeat (first | refine blk_drewN ?_ _ | refine blk_drew ?_ | refine blk_alloc ?_ _)); refine blk_far ?_ NB1002_1003.out _; (with_reducible repeat (first | refine blk_drewN ?_ _ | refine blk_drew ?_ | refine blk_alloc ?_ _)); refine blk_far ?_ NB1002_1003.out _; (with_reducible repeat (first | refine blk_drewN ?_ _ | refine blk_drew ?_ | refine blk_alloc ?_ _)); exact BK1002.out) hb); have n4_ := am_ (blk_below (g := gb1003) (o := .cells #[.slice Ao11 t1004.length co11, .int .i64 a0_1, .int .i64 a0_2, .bool a0_3, .slice none 0 0] 60 (0, 0)) (by (with_reducible repeat (first | refine blk_drewN ?_ _ | refine blk_drew ?_ | refine blk_alloc ?_ _)); refine blk_put (cs := #[.slice Ao11 t1004.length co11, .int .i64 a0_1, .int .i64 a0_2, .bool false, .slice none 0 0]) ?_ 3 _ rfl; (with_reducible repeat (first | refine blk_drewN ?_ _ | refine blk_drew ?_ | refine blk_alloc ?_ _)); refine blk_put (cs := #[.slice Ao11 t1004.length co11, .int .i64 a0_1, .int .i64 0, .bool false, .slice none 0 0]) ?_ 2 _ rfl; (with_reducible repeat (first | refine blk_drewN ?_ _ | refine blk_drew ?_ | refine blk_alloc ?_ _)); refine blk_put (cs := #[.slice Ao11 t1004.length co11, .int .i64 0, .int .i64 0, .bool false, .slice none 0 0]) ?_ 1 _ rfl; (with_reducible repeat (first | refine blk_drewN ?_ _ | refine blk_drew ?_ | refine blk_alloc ?_ _)); refine blk_put (cs := #[.slice none 0 0, .int .i64 0, .int .i64 0, .bool false, .slice none 0 0]) ?_ 0 _ rfl; (with_reducible repeat (first | refine blk_drewN ?_ _ | refine blk_drew ?_ | refine blk_alloc ?_ _)); exact BK1003.out) hb); have n5_ := am_ (below_step bg_ hb); clear HO1006; clear BK1001; clear BK1002; clear BK1003; clear HB; have HO1006 := n0_; have HO1009 := n1_; have BK1001 := n2_; have BK1002 := n3_; have BK1003 := n4_; have HB := n5_; clear n0_ n1_ n2_ n3_ n4_ n5_; (try clear hb); (try clear hb2); (try clear hk); (try clear hi); (try clear ho0); obtain ⟨Ao16, co16, eo16⟩ := Kd.S_slice HO1009.out; subst eo16; have hcz17_0 := bc5_0 BK1003; have hcz17_1 := bc5_1 BK1003; have hcz17_2 := bc5_2 BK1003; have hcz17_3 := bc5_3 BK1003; have hcz17_4 := bc5_4 BK1003; have hfz17_0 := bf_ BK1003 0; have hfz17_1 := bf_ BK1003 1; have hfz17_2 := bf_ BK1003 2; have hfz17_3 := bf_ BK1003 3; have hfz17_4 := bf_ BK1003 4; have hcz18_0 := bc5_0 BK1002; have hcz18_1 := bc5_1 BK1002; have hcz18_2 := bc5_2 BK1002; have hcz18_3 := bc5_3 BK1002; have hcz18_4 := bc5_4 BK1002; have hfz18_0 := bf_ BK1002 0; have hfz18_1 := bf_ BK1002 1; have hfz18_2 := bf_ BK1002 2; have hfz18_3 := bf_ BK1002 3; have hfz18_4 := bf_ BK1002 4))
 refine bodyPost_ret (results_cell_row rfl _ _ gb1002 60 #[.slice Ao11 t1004.length co11, .int .i64 a0_1, .int .i64 a0_2, .bool a0_3, .slice Ao16 t1007.length co16] (0, 0) _ rfl (by (with_reducible repeat (first | refine blk_drewN ?_ _ | refine blk_drew ?_ | refine blk_alloc ?_ _)); refine blk_put (cs := #[.slice Ao11 t1004.length co11, .int .i64 a0_1, .int .i64 a0_2, .bool a0_3, .slice none 0 0]) ?_ 4 _ rfl; (with_reducible repeat (first | refine blk_drewN ?_ _ | refine blk_drew ?_ | refine blk_alloc ?_ _)); refine blk_put (cs := #[.slice Ao11 t1004.length co11, .int .i64 a0_1, .int .i64 a0_2, .bool false, .slice none 0 0]) ?_ 3 _ rfl; (with_reducible repeat (first | refine blk_drewN ?_ _ | refine blk_drew ?_ | refine blk_alloc ?_ _)); refine blk_put (cs := #[.slice Ao11 t1004.length co11, .int .i64 a0_1, .int .i64 0, .bool false, .slice none 0 0]) ?_ 2 _ rfl; (with_reducible repeat (first | refine blk_drewN ?_ _ | refine blk_drew ?_ | refine blk_alloc ?_ _)); refine blk_put (cs := #[.slice Ao11 t1004.length co11, .int .i64 0, .int .i64 0, .bool false, .slice none 0 0]) ?_ 1 _ rfl; (with_reducible repeat (first | refine blk_drewN ?_ _ | refine blk_drew ?_ | refine blk_alloc ?_ _)); refine blk_put (cs := #[.slice none 0 0, .int .i64 0, .int .i64 0, .bool false, .slice none 0 0]) ?_ 0 _ rfl; (with_reducible repeat (first | refine blk_drewN ?_ _ | refine blk_drew ?_ | refine blk_alloc ?_ _)); refine blk_far ?_ NB1002_1003.out _; (with_reducible repeat (first | refine blk_drewN ?_ _ | refine blk_drew ?_ | refine blk_alloc ?_ _)); exact BK1002.out) Try.underlying60 rfl (by kernel_rfl)) rfl ?_
 exact ⟨_, _, rf_, by (with_reducible repeat (first | apply Kd.R_alloc | apply Kd.R_drewN | apply Kd.R_drew)); exact Kd.R_mono (Kd.R_far (p := ⟨gb1002, 4, none⟩) (Kd.R_far (p := ⟨gb1002, 3, none⟩) (Kd.R_far (p := ⟨gb1002, 2, none⟩) (Kd.R_far (p := ⟨gb1002, 1, none⟩) (Kd.R_far (p := ⟨gb1002, 0, none⟩) (Kd.R_far (p := ⟨gb1003, 4, none⟩) (Kd.R_types (Kd.R_types HO1006.out BK1003.out (by decide)) BK1002.out (by decide)) (fun _ hk => hk.1.2) (.slice Ao16 t1007.length co16)) (fun _ hk => hk.2) (.slice Ao11 t1004.length co11)) (fun _ hk => hk.2) (.int .i64 a0_1)) (fun _ hk => hk.2) (.int .i64 a0_2)) (fun _ hk => hk.2) (.bool a0_3)) (fun _ hk => hk.2) (.slice Ao16 t1007.length co16)) (fun _ hk => trivial), by (with_reducible repeat (first | apply Kd.S_alloc | apply Kd.S_drewN | apply Kd.S_drew)); exact Kd.S_mono (Kd.S_far (p := ⟨gb1002, 4, none⟩) (Kd.S_far (p := ⟨gb1002, 3, none⟩) (Kd.S_far (p := ⟨gb1002, 2, none⟩) (Kd.S_far (p := ⟨gb1002, 1, none⟩) (Kd.S_far (p := ⟨gb1002, 0, none⟩) (Kd.S_far (p := ⟨gb1003, 4, none⟩) (Kd.S_types (Kd.S_types HO1009.out BK1003.out (by decide)) BK1002.out (by decide)) (fun _ hk => hk.1.2) (.slice Ao16 t1007.length co16)) (fun _ hk => hk.2) (.slice Ao11 t1004.length co11)) (fun _ hk => hk.2) (.int .i64 a0_1)) (fun _ hk => hk.2) (.int .i64 a0_2)) (fun _ hk => hk.2) (.bool a0_3)) (fun _ hk => hk.2) (.slice Ao16 t1007.length co16)) (fun _ hk => trivial), bg_⟩

/-! ### impl_Relabel_132: function 132 -/
def impl_Relabel_132.l0 (P : S42 → Option Bool) (l0 : List (S42)) : Nat → Int → Option Int
 | 0, _ => none
 | k + 1, x8 => if x8 < (l0.length : Int) then (if 0 ≤ x8 then ((P (⟨(rd_T42 l0 x8).f0, (rd_T42 l0 x8).f1, (rd_T42 l0 x8).f2, (rd_T42 l0 x8).f3, (rd_T42 l0 x8).f4, (rd_T42 l0 x8).f5, (rd_T42 l0 x8).f6⟩ : S42)).bind fun b => if b = true then some x8 else impl_Relabel_132.l0 P l0 k (wrap64 (x8 + 1))) else none) else some (-1)
def impl_Relabel_132.f (k : Nat) (P : S42 → Option Bool) (l0 : List (S42)) : Option Int := impl_Relabel_132.l0 P l0 k 0
theorem impl_Relabel_132.mono_l (P P' : S42 → Option Bool) (hP : ∀ x, LeO (P x) (P' x)) (l0 : List (S42)) : ∀ k x8, LeO (impl_Relabel_132.l0 P l0 k x8) (impl_Relabel_132.l0 P' l0 (k + 1) x8)
 | 0, _ => LeO.none _
 | k + 1, x8 => by
  have ih := impl_Relabel_132.mono_l P P' hP l0 k
  unfold impl_Relabel_132.l0
  exact LeO.ite (LeO.ite (LeO.bind (hP _) (fun _ => LeO.ite (LeO.refl _) (ih _))) (LeO.none _)) (LeO.refl _)
theorem impl_Relabel_132.mono (P P' : S42 → Option Bool) (hP : ∀ x, LeO (P x) (P' x)) (l0 : List (S42)) (k : Nat) : LeO (impl_Relabel_132.f k P l0) (impl_Relabel_132.f (k + 1) P' l0) := impl_Relabel_132.mono_l P P' hP l0 k _
set_option maxHeartbeats 4000000 in
set_option maxRecDepth 100000 in
theorem impl_Relabel_132.calls (k : Nat) (P : S42 → Option Bool) (g : Nat) (vf : Value) (lb : Array Value) (hv : (vf = .func (.func g) #[] lb)) (eg : ∀ args w, (callFunc g args).run Try.prog w = .ok (.enter g args) w) (A0 : Option Addr) (c0 : Nat) (l0 : List (S42)) (r : Int) (w : World) (hr0 : Kd.C k42 w A0 l0.length l0) (hc0 : l0.length ≤ c0)
  (hP : ∀ (W : World) (x : S42) (A_1 : Option Addr) (c_1 : Nat) (b : Bool), Below w.heap.size w W → x.f1.length ≤ c_1 → Kd.C Kd.string W A_1 x.f1.length x.f1 → P x = some b → Calls Try.prog g (#[(.agg #[.int .i64 (x.f0), .slice A_1 (x.f1).length c_1, .string (x.f2), .string (x.f3), .string (x.f4), .string (x.f5), .int .i64 (x.f6)])] ++ lb) W fun e w' => e = .returned (.bool b) ∧ Below W.heap.size W w') (h : impl_Relabel_132.f k P l0 = some r) :
  Calls Try.prog 132 #[.slice A0 l0.length c0, vf] w fun e w' => e = .returned (.int .i64 r) ∧ Below w.heap.size w w' := by
 subst hv
 have hu := Try.underlying42
 have HR0 := am_ hr0
 have HC0 := am_ hc0
 clear hr0 hc0
 have HB := am_ (Below.refl w.heap.size w)
 have hP' := am_ hP
 clear hP
 have H' := am_ (show impl_Relabel_132.l0 P l0 k 0 = some r from h)
 clear h
 go_enter Try.func132, Try.ntmps132
 go_wp2
 go_loopg [8] k (fun kq v8 w' => ∃ (x8 : Int), v8 = .int .i64 x8 ∧ Aside0 (impl_Relabel_132.l0 P l0 kq x8 = some r) ∧ Aside0 (Below w.heap.size w w'))
 case atStart => exact ⟨0, rs_, H', ⟨bl_⟩⟩
 case round =>
  clear H'
  obtain ⟨x8, rfl, HA, HB⟩ := hrel
  cases gk with
  | zero => exact absurd HA.out (by simp [impl_Relabel_132.l0])
  | succ k1 =>
   have H := HA.out
   clear HA
   simp only [impl_Relabel_132.l0] at H
   by_cases c4 : x8 < (l0.length : Int)
   ·rw [if_pos c4] at H
    have c4b0 : decide (x8 < (l0.length : Int)) = true := decide_eq_true c4
    by_cases c5 : 0 ≤ x8
    ·rw [if_pos c5] at H
     have c5b0 : decide (0 ≤ x8) = true := decide_eq_true c5
     obtain ⟨b, hb0, H⟩ := Option.bind_eq_some_iff.mp H
     have HP0 := am_ hb0
     clear hb0
     obtain ⟨ad, A_1, c_1, e_, hx_0, hx_1, hx_2, hx_3, hx_4, hx_5, hx_6, l_1, g_1⟩ := at_T42 (Kd.C_below HR0.out HB.out) x8 c5 c4
     cases e_
     skip
     have p_ := eq_true c5
     have q_ := eq_true c4
     clear c4 c5
     cases b with
     | true =>
      rw [if_pos rfl] at H
      obtain rfl := Option.some.inj H
      go_wp2_with (first | ((with_reducible refine Calls.mono (hP'.out _ (⟨(rd_T42 l0 x8).f0, (rd_T42 l0 x8).f1, (rd_T42 l0 x8).f2, (rd_T42 l0 x8).f3, (rd_T42 l0 x8).f4, (rd_T42 l0 x8).f5, (rd_T42 l0 x8).f6⟩ : S42) A_1 c_1 true HB.out l_1 g_1 HP0.out) ?_); rintro e w10 ⟨rfl, hb⟩; have n2_ := am_ (below_step HB.out hb); clear HB; have HB := n2_; clear n2_ hb))
      go_ret
      exact ⟨rf_, bl_⟩
     | false =>
      rw [if_neg (show ¬ (false = true) by decide)] at H
      have H' := am_ H
      clear H
      go_wp2_with (first | ((with_reducible refine Calls.mono (hP'.out _ (⟨(rd_T42 l0 x8).f0, (rd_T42 l0 x8).f1, (rd_T42 l0 x8).f2, (rd_T42 l0 x8).f3, (rd_T42 l0 x8).f4, (rd_T42 l0 x8).f5, (rd_T42 l0 x8).f6⟩ : S42) A_1 c_1 false HB.out l_1 g_1 HP0.out) ?_); rintro e w10 ⟨rfl, hb⟩; have n2_ := am_ (below_step HB.out hb); clear HB; have HB := n2_; clear n2_ hb))
      go_roundg k1
      case measure => omega
      case rel => exact ⟨(wrap64 (x8 + 1)), rs_, H', ⟨bl_⟩⟩
    ·rw [if_neg c5] at H
     exact absurd H (by simp)
   ·rw [if_neg c4] at H
    have c4b0 : decide (x8 < (l0.length : Int)) = false := decide_eq_false c4
    clear c4
    obtain rfl := Option.some.inj H
    go_wp2
    go_ret
    exact ⟨rf_, bl_⟩

/-! ### impl_Relabel_99: function 99 -/
def impl_Relabel_99.f (k : Nat) (P : S42 → Option Bool) (l0 : List (S42)) : Option Bool := (impl_Relabel_132.f k P l0).bind fun j => some (decide (0 ≤ j))
theorem impl_Relabel_99.mono (P P' : S42 → Option Bool) (hP : ∀ x, LeO (P x) (P' x)) (l0 : List (S42)) (k : Nat) : LeO (impl_Relabel_99.f k P l0) (impl_Relabel_99.f (k + 1) P' l0) := LeO.bind (impl_Relabel_132.mono P P' hP l0 k) (fun _ => LeO.refl _)
set_option maxHeartbeats 4000000 in
set_option maxRecDepth 100000 in
theorem impl_Relabel_99.calls (k : Nat) (P : S42 → Option Bool) (g : Nat) (vf : Value) (lb : Array Value) (hv : vf = .func (.func g) #[] lb) (eg : ∀ args w, (callFunc g args).run Try.prog w = .ok (.enter g args) w) (A0 : Option Addr) (c0 : Nat) (l0 : List (S42)) (r : Bool) (w : World) (hr0 : Kd.C k42 w A0 l0.length l0) (hc0 : l0.length ≤ c0)
  (hP : ∀ (W : World) (x : S42) (A_1 : Option Addr) (c_1 : Nat) (b : Bool), Below w.heap.size w W → x.f1.length ≤ c_1 → Kd.C Kd.string W A_1 x.f1.length x.f1 → P x = some b → Calls Try.prog g (#[(.agg #[.int .i64 (x.f0), .slice A_1 (x.f1).length c_1, .string (x.f2), .string (x.f3), .string (x.f4), .string (x.f5), .int .i64 (x.f6)])] ++ lb) W fun e w' => e = .returned (.bool b) ∧ Below W.heap.size W w') (h : impl_Relabel_99.f k P l0 = some r) :
  Calls Try.prog 99 #[.slice A0 l0.length c0, vf] w fun e w' => e = .returned (.bool r) ∧ Below w.heap.size w w' := by
 unfold impl_Relabel_99.f at h
 obtain ⟨j, hj, h⟩ := Option.bind_eq_some_iff.mp h
 obtain rfl := Option.some.inj h
 have hx := am_ (impl_Relabel_132.calls k P g vf lb hv eg A0 c0 l0 j w hr0 hc0 hP hj)
 clear hr0 hc0 hP h hj eg
 subst hv
 go_enter Try.func99, Try.ntmps99
 go_wp2_with (first | (go_at_call 132; refine hx.out.mono ?_; rintro e w1 ⟨rfl, hb⟩))
 go_ret
 exact ⟨rfl, hb⟩

/-! ### impl_GoodTarget_1: function 100 -/
def impl_GoodTarget_1.f (k : Nat) (a0_0 : Int) (l0_1 : List ByteArray) (a0_2 : ByteArray) (a0_3 : ByteArray) (a0_4 : ByteArray) (a0_5 : ByteArray) (a0_6 : Int) : Option (Bool) := (impl_GoodRelabel.f k a0_0 l0_1 a0_2 a0_3 a0_4 a0_5 a0_6).bind fun t1002 => (some (!t1002))
theorem impl_GoodTarget_1.mono : ∀ a0 a1 a2 a3 a4 a5 a6 k, LeO (impl_GoodTarget_1.f k a0 a1 a2 a3 a4 a5 a6) (impl_GoodTarget_1.f (k + 1) a0 a1 a2 a3 a4 a5 a6) := by
 intro a0 a1 a2 a3 a4 a5 a6 k
 unfold impl_GoodTarget_1.f
 repeat' first
   | with_reducible first | exact impl_GoodRelabel.mono _ _ _ _ _ _ _ _ | exact LeO.refl _ | exact LeO.none _ | refine LeO.ite ?_ ?_ | refine LeO.bind ?_ (fun _ => ?_)
   | exact impl_GoodRelabel.mono _ _ _ _ _ _ _ _
   | exact LeO.none _
   | refine LeO.ite ?_ ?_
   | refine LeO.bind ?_ (fun _ => ?_)
set_option maxHeartbeats 8000000 in
set_option maxRecDepth 100000 in
theorem impl_GoodTarget_1.calls (k : Nat) (a0_0 : Int) (A0_1 : Option Addr) (c0_1 : Nat) (l0_1 : List ByteArray) (a0_2 : ByteArray) (a0_3 : ByteArray) (a0_4 : ByteArray) (a0_5 : ByteArray) (a0_6 : Int) (r : Bool) (w : World) (hr0_1 : Kd.C Kd.string w A0_1 l0_1.length l0_1) (hc0_1 : l0_1.length ≤ c0_1) (h : impl_GoodTarget_1.f k a0_0 l0_1 a0_2 a0_3 a0_4 a0_5 a0_6 = some r) :
  Calls Try.prog 100 #[.agg #[.int .i64 a0_0, .slice A0_1 l0_1.length c0_1, .string a0_2, .string a0_3, .string a0_4, .string a0_5, .int .i64 a0_6]] w fun e w' => e = .returned (.bool r) ∧ Below w.heap.size w w' := by
 have hu42 := Try.underlying42
 have HR0_1 := am_ hr0_1
 have HC0_1 := am_ hc0_1
 clear hr0_1 hc0_1
 have HB := am_ (Below.refl w.heap.size w)
 have H : ((impl_GoodRelabel.f k a0_0 l0_1 a0_2 a0_3 a0_4 a0_5 a0_6).bind fun t1002 => (some (!t1002))) = some r := h
 clear h
 replace H := Option.bind_eq_some_iff.mp H
 obtain ⟨t1002, A20, H⟩ := H
 replace H : (some (!t1002)) = some r := H
 have A2 := am_ A20
 clear A20
 obtain rfl := Option.some.inj H
 go_enter Try.func100, Try.ntmps100
 go_wp2_with (first | ((with_reducible refine gate_dst (N := 1) rfl ?_); refine box_event ?hg (N := 1) ?hd (cs := #[.int .i64 a0_0, .slice A0_1 l0_1.length c0_1, .string a0_2, .string a0_3, .string a0_4, .string a0_5, .int .i64 a0_6]) (t := 42) ?hr ?_; (case hd => rfl); (case hg => rfl); (case hr => first | (go_simp; done) | (go_simp; rfl)); intro gb1001 hg w3 hbox hb; have n0_ := am_ (below_step bl_ hb); have n1_ := am_ (hbox); have n2_ := am_ (gs_ hg : w.heap.size ≤ gb1001); have n3_ := n2_; clear HB; have HB := n0_; have BK1001 := n1_; have GW1001 := n2_; have GE1001 := n3_; clear n0_ n1_ n2_ n3_; clear hb hbox hg; have hcz4_0 : w3.cell? ⟨gb1001, 0, none⟩ = some (.int .i64 a0_0) := (blk_cell BK1001.out 0).trans rfl; have hcz4_1 : w3.cell? ⟨gb1001, 1, none⟩ = some (.slice A0_1 l0_1.length c0_1) := (blk_cell BK1001.out 1).trans rfl; have hcz4_2 : w3.cell? ⟨gb1001, 2, none⟩ = some (.string a0_2) := (blk_cell BK1001.out 2).trans rfl; have hcz4_3 : w3.cell? ⟨gb1001, 3, none⟩ = some (.string a0_3) := (blk_cell BK1001.out 3).trans rfl; have hcz4_4 : w3.cell? ⟨gb1001, 4, none⟩ = some (.string a0_4) := (blk_cell BK1001.out 4).trans rfl; have hcz4_5 : w3.cell? ⟨gb1001, 5, none⟩ = some (.string a0_5) := (blk_cell BK1001.out 5).trans rfl; have hcz4_6 : w3.cell? ⟨gb1001, 6, none⟩ = some (.int .i64 a0_6) := (blk_cell BK1001.out 6).trans rfl; have hfz4_0 := bf_ BK1001 0; have hfz4_1 := bf_ BK1001 1; have hfz4_2 := bf_ BK1001 2; have hfz4_3 := bf_ BK1001 3; have hfz4_4 := bf_ BK1001 4; have hfz4_5 := bf_ BK1001 5; have hfz4_6 := bf_ BK1001 6) | ((with_reducible refine gate_callee (f := 34) rfl ?_); refine goesL_ (some 4) rfl rfl Try.func34 (by kernel_rfl) rfl #[.agg #[.int .i64 a0_0, .slice A0_1 l0_1.length c0_1, .string a0_2, .string a0_3, .string a0_4, .string a0_5, .int .i64 a0_6]] rfl ag_ ?_; (with_reducible refine (impl_GoodRelabel.calls k a0_0 _ _ l0_1 a0_2 a0_3 a0_4 a0_5 a0_6 t1002 _ ?side1 ?side2 A2.out).mono ?_); (case side1 => exact cc_ (Kd.C_below HR0_1.out HB.out)); (case side2 => exact HC0_1.out); rintro e w5 ⟨rfl, hb⟩; refine ⟨_, rfl, ?_⟩; have n0_ := am_ (blk_below (g := gb1001) (vk_ BK1001) hb); have n1_ := am_ (below_step bg_ hb); clear BK1001; clear HB; have BK1001 := n0_; have HB := n1_; clear n0_ n1_; (try clear hb); (try clear hb2); (try clear hk); (try clear hi)))
 go_ret
 exact ⟨rf_, bg_⟩

/-! ### any_99_100: function 99 -/
def any_99_100.f (k : Nat) (l0 : List (S42)) : Option Bool := impl_Relabel_99.f k (fun x => impl_GoodTarget_1.f k x.f0 x.f1 x.f2 x.f3 x.f4 x.f5 x.f6) l0
theorem any_99_100.mono : ∀ a0 k, LeO (any_99_100.f k a0) (any_99_100.f (k + 1) a0) := fun a0 k => impl_Relabel_99.mono _ _ (fun x => impl_GoodTarget_1.mono _ _ _ _ _ _ _ _) a0 k
theorem any_99_100.calls (k : Nat) (A0 : Option Addr) (c0 : Nat) (l0 : List (S42)) (r : Bool) (w : World) (hr0 : Kd.C k42 w A0 l0.length l0) (hc0 : l0.length ≤ c0) (h : any_99_100.f k l0 = some r) :
  Calls Try.prog 99 #[.slice A0 l0.length c0, .func (.func 100) #[] #[]] w fun e w' => e = .returned (.bool r) ∧ Below w.heap.size w w' :=
 impl_Relabel_99.calls k _ 100 (.func (.func 100) #[] #[]) #[] rfl (enters_ Try.func100 (by kernel_rfl) rfl) A0 c0 l0 r w hr0 hc0 (by
  intro W x A_1 c_1 b hW l_1 g_1 hP
  exact impl_GoodTarget_1.calls k x.f0 A_1 c_1 x.f1 x.f2 x.f3 x.f4 x.f5 x.f6 b W g_1 l_1 hP) h
/-! ### impl_GoodTarget: function 44 -/
def impl_GoodTarget.f (k : Nat) (l0_0 : List (S105)) (a0_1 : Int) (a0_2 : Int) (a0_3 : Bool) (l0_4 : List (S42)) : Option (Bool) := (impl_GoodLabels.f k l0_0).bind fun t1002 => (if t1002 = true then (if (l0_0.length : Int) < 20 then ((impl_valueOf.f k l0_0 (⟨#[95, 110, 97, 109, 101]⟩ : ByteArray)).bind fun t1003 => (if t1003.toList = ([] : List UInt8) then (if a0_1 ≥ 1 then (if a0_1 ≤ 3600 then (if a0_2 ≥ 0 then (if a0_2 ≤ 1000 then (if (l0_4.length : Int) ≤ 30 then ((any_99_100.f k l0_4).bind fun t1004 => (some (!t1004))) else (some false)) else (some false)) else (some false)) else (some false)) else (some false)) else (some false))) else (some false)) else (some false))
theorem impl_GoodTarget.mono : ∀ a0 a1 a2 a3 a4 k, LeO (impl_GoodTarget.f k a0 a1 a2 a3 a4) (impl_GoodTarget.f (k + 1) a0 a1 a2 a3 a4) := by
 intro a0 a1 a2 a3 a4 k
 unfold impl_GoodTarget.f
 repeat' first
   | with_reducible first | exact any_99_100.mono _ _ | exact impl_GoodLabels.mono _ _ | exact impl_valueOf.mono _ _ _ | exact LeO.refl _ | exact LeO.none _ | refine LeO.ite ?_ ?_ | refine LeO.bind ?_ (fun _ => ?_)
   | exact any_99_100.mono _ _
   | exact impl_GoodLabels.mono _ _
   | exact impl_valueOf.mono _ _ _
   | exact LeO.none _
   | refine LeO.ite ?_ ?_
   | refine LeO.bind ?_ (fun _ => ?_)
set_option maxHeartbeats 8000000 in
set_option maxRecDepth 100000 in
theorem impl_GoodTarget.calls (k : Nat) (A0_0 : Option Addr) (c0_0 : Nat) (l0_0 : List (S105)) (a0_1 : Int) (a0_2 : Int) (a0_3 : Bool) (A0_4 : Option Addr) (c0_4 : Nat) (l0_4 : List (S42)) (r : Bool) (w : World) (hr0_0 : Kd.C k105 w A0_0 l0_0.length l0_0) (hc0_0 : l0_0.length ≤ c0_0) (hr0_4 : Kd.C k42 w A0_4 l0_4.length l0_4) (hc0_4 : l0_4.length ≤ c0_4) (h : impl_GoodTarget.f k l0_0 a0_1 a0_2 a0_3 l0_4 = some r) :
  Calls Try.prog 44 #[.agg #[.slice A0_0 l0_0.length c0_0, .int .i64 a0_1, .int .i64 a0_2, .bool a0_3, .slice A0_4 l0_4.length c0_4]] w fun e w' => e = .returned (.bool r) ∧ Below w.heap.size w w' := by
 have hu60 := Try.underlying60
 have HR0_0 := am_ hr0_0
 have HC0_0 := am_ hc0_0
 clear hr0_0 hc0_0
 have HR0_4 := am_ hr0_4
 have HC0_4 := am_ hc0_4
 clear hr0_4 hc0_4
 have HB := am_ (Below.refl w.heap.size w)
 have H : ((impl_GoodLabels.f k l0_0).bind fun t1002 => (if t1002 = true then (if (l0_0.length : Int) < 20 then ((impl_valueOf.f k l0_0 (⟨#[95, 110, 97, 109, 101]⟩ : ByteArray)).bind fun t1003 => (if t1003.toList = ([] : List UInt8) then (if a0_1 ≥ 1 then (if a0_1 ≤ 3600 then (if a0_2 ≥ 0 then (if a0_2 ≤ 1000 then (if (l0_4.length : Int) ≤ 30 then ((any_99_100.f k l0_4).bind fun t1004 => (some (!t1004))) else (some false)) else (some false)) else (some false)) else (some false)) else (some false)) else (some false))) else (some false)) else (some false))) = some r := h
 clear h
 replace H := Option.bind_eq_some_iff.mp H
 obtain ⟨t1002, A20, H⟩ := H
 replace H : (if t1002 = true then (if (l0_0.length : Int) < 20 then ((impl_valueOf.f k l0_0 (⟨#[95, 110, 97, 109, 101]⟩ : ByteArray)).bind fun t1003 => (if t1003.toList = ([] : List UInt8) then (if a0_1 ≥ 1 then (if a0_1 ≤ 3600 then (if a0_2 ≥ 0 then (if a0_2 ≤ 1000 then (if (l0_4.length : Int) ≤ 30 then ((any_99_100.f k l0_4).bind fun t1004 => (some (!t1004))) else (some false)) else (some false)) else (some false)) else (some false)) else (some false)) else (some false))) else (some false)) else (some false)) = some r := H
 have A2 := am_ A20
 clear A20
 by_cases c3 : t1002 = true
 ·subst c3
  have H1 : (if (l0_0.length : Int) < 20 then ((impl_valueOf.f k l0_0 (⟨#[95, 110, 97, 109, 101]⟩ : ByteArray)).bind fun t1003 => (if t1003.toList = ([] : List UInt8) then (if a0_1 ≥ 1 then (if a0_1 ≤ 3600 then (if a0_2 ≥ 0 then (if a0_2 ≤ 1000 then (if (l0_4.length : Int) ≤ 30 then ((any_99_100.f k l0_4).bind fun t1004 => (some (!t1004))) else (some false)) else (some false)) else (some false)) else (some false)) else (some false)) else (some false))) else (some false)) = some r := by rw [if_pos rfl] at H; exact H
  clear H
  have H := H1
  clear H1
  by_cases c4 : (l0_0.length : Int) < 20
  ·rw [if_pos c4] at H
   have c4b0 : decide ((l0_0.length : Int) < 20) = true := decide_eq_true c4
   have c4b1 : decide (l0_0.length < 20) = true := decide_eq_true (by omega)
   clear c4
   replace H := Option.bind_eq_some_iff.mp H
   obtain ⟨t1003, A50, H⟩ := H
   replace H : (if t1003.toList = ([] : List UInt8) then (if a0_1 ≥ 1 then (if a0_1 ≤ 3600 then (if a0_2 ≥ 0 then (if a0_2 ≤ 1000 then (if (l0_4.length : Int) ≤ 30 then ((any_99_100.f k l0_4).bind fun t1004 => (some (!t1004))) else (some false)) else (some false)) else (some false)) else (some false)) else (some false)) else (some false)) = some r := H
   have A5 := am_ A50
   clear A50
   by_cases c6 : t1003.toList = ([] : List UInt8)
   ·rw [if_pos c6] at H
    have c6b0 : (t1003.toList == ([] : List UInt8)) = true := beq_iff_eq.mpr c6
    have c6b1 : (t1003.toList != ([] : List UInt8)) = false := bne_eq_false_iff_eq.mpr c6
    clear c6
    by_cases c7 : a0_1 ≥ 1
    ·rw [if_pos c7] at H
     have c7b0 : decide (1 ≤ a0_1) = true := decide_eq_true c7
     clear c7
     by_cases c8 : a0_1 ≤ 3600
     ·rw [if_pos c8] at H
      have c8b0 : decide (a0_1 ≤ 3600) = true := decide_eq_true c8
      clear c8
      by_cases c9 : a0_2 ≥ 0
      ·rw [if_pos c9] at H
       have c9b0 : decide (0 ≤ a0_2) = true := decide_eq_true c9
       clear c9
       by_cases c10 : a0_2 ≤ 1000
       ·rw [if_pos c10] at H
        have c10b0 : decide (a0_2 ≤ 1000) = true := decide_eq_true c10
        clear c10
        by_cases c11 : (l0_4.length : Int) ≤ 30
        ·rw [if_pos c11] at H
         have c11b0 : decide ((l0_4.length : Int) ≤ 30) = true := decide_eq_true c11
         have c11b1 : decide (l0_4.length ≤ 30) = true := decide_eq_true (by omega)
         clear c11
         replace H := Option.bind_eq_some_iff.mp H
         obtain ⟨t1004, A120, H⟩ := H
         replace H : (some (!t1004)) = some r := H
         have A12 := am_ A120
         clear A120
         obtain rfl := Option.some.inj H
         go_enter Try.func44, Try.ntmps44
         go_wp2_with (first | ((with_reducible refine gate_dst (N := 1) rfl ?_); (try (refine gate_guard (by rfl) ?_; dsimp only)); refine box_event ?hg (N := 1) ?hd (cs := #[.slice A0_0 l0_0.length c0_0, .int .i64 a0_1, .int .i64 a0_2, .bool a0_3, .slice A0_4 l0_4.length c0_4]) (t := 60) ?hr ?_; (case hd => rfl); (case hg => rfl); (case hr => first | (go_simp; done) | (go_simp; rfl)); intro gb1001 hg w13 hbox hb; have n0_ := am_ (below_step bl_ hb); have n1_ := am_ (hbox); have n2_ := am_ (gs_ hg : w.heap.size ≤ gb1001); have n3_ := n2_; clear HB; have HB := n0_; have BK1001 := n1_; have GW1001 := n2_; have GE1001 := n3_; clear n0_ n1_ n2_ n3_; clear hb hbox hg; have hcz14_0 := bc5_0 BK1001; have hcz14_1 := bc5_1 BK1001; have hcz14_2 := bc5_2 BK1001; have hcz14_3 := bc5_3 BK1001; have hcz14_4 := bc5_4 BK1001; have hfz14_0 := bf_ BK1001 0; have hfz14_1 := bf_ BK1001 1; have hfz14_2 := bf_ BK1001 2; have hfz14_3 := bf_ BK1001 3; have hfz14_4 := bf_ BK1001 4) | ((with_reducible refine gate_callee (f := 91) rfl ?_); refine goesL_ (some 5) rfl rfl Try.func91 (by kernel_rfl) rfl #[.slice A0_0 l0_0.length c0_0] rfl ag_ ?_; (with_reducible refine (impl_GoodLabels.calls k _ _ l0_0 true _ ?side1 ?side2 A2.out).mono ?_); (case side1 => exact cc_ (Kd.C_below HR0_0.out HB.out)); (case side2 => exact HC0_0.out); rintro e w15 ⟨rfl, hb⟩; refine ⟨_, rfl, ?_⟩; have n0_ := am_ (blk_below (g := gb1001) (vk_ BK1001) hb); have n1_ := am_ (below_step bg_ hb); clear BK1001; clear HB; have BK1001 := n0_; have HB := n1_; clear n0_ n1_; (try clear hb); (try clear hb2); (try clear hk); (try clear hi); have hcz16_0 := bc5_0 BK1001; have hcz16_1 := bc5_1 BK1001; have hcz16_2 := bc5_2 BK1001; have hcz16_3 := bc5_3 BK1001; have hcz16_4 := bc5_4 BK1001; have hfz16_0 := bf_ BK1001 0; have hfz16_1 := bf_ BK1001 1; have hfz16_2 := bf_ BK1001 2; have hfz16_3 := bf_ BK1001 3; have hfz16_4 := bf_ BK1001 4) | (go_at_call 98; (with_reducible refine (impl_valueOf.calls k _ _ l0_0 (⟨#[95, 110, 97, 109, 101]⟩ : ByteArray) t1003 _ ?side1 ?side2 A5.out).mono ?_); (case side1 => exact cc_ (Kd.C_below HR0_0.out HB.out)); (case side2 => exact HC0_0.out); rintro e w17 ⟨rfl, hb⟩; have n0_ := am_ (blk_below (g := gb1001) (vk_ BK1001) hb); have n1_ := am_ (below_step bg_ hb); clear BK1001; clear HB; have BK1001 := n0_; have HB := n1_; clear n0_ n1_; (try clear hb); (try clear hb2); (try clear hk); (try clear hi); have hcz18_0 := bc5_0 BK1001; have hcz18_1 := bc5_1 BK1001; have hcz18_2 := bc5_2 BK1001; have hcz18_3 := bc5_3 BK1001; have hcz18_4 := bc5_4 BK1001; have hfz18_0 := bf_ BK1001 0; have hfz18_1 := bf_ BK1001 1; have hfz18_2 := bf_ BK1001 2; have hfz18_3 := bf_ BK1001 3; have hfz18_4 := bf_ BK1001 4) | (go_at_call 99; (with_reducible refine (any_99_100.calls k _ _ l0_4 t1004 _ ?side1 ?side2 A12.out).mono ?_); (case side1 => exact cc_ (Kd.C_below HR0_4.out HB.out)); (case side2 => exact HC0_4.out); rintro e w19 ⟨rfl, hb⟩; have n0_ := am_ (blk_below (g := gb1001) (vk_ BK1001) hb); have n1_ := am_ (below_step bg_ hb); clear BK1001; clear HB; have BK1001 := n0_; have HB := n1_; clear n0_ n1_; (try clear hb); (try clear hb2); (try clear hk); (try clear hi)))
         go_ret
         exact ⟨rf_, bg_⟩
        ·rw [if_neg c11] at H
         have c11b0 : decide ((l0_4.length : Int) ≤ 30) = false := decide_eq_false c11
         have c11b1 : decide (l0_4.length ≤ 30) = false := decide_eq_false (by omega)
         clear c11
         obtain rfl := Option.some.inj H
         go_enter Try.func44, Try.ntmps44
         go_wp2_with (first | ((with_reducible refine gate_dst (N := 1) rfl ?_); (try (refine gate_guard (by rfl) ?_; dsimp only)); refine box_event ?hg (N := 1) ?hd (cs := #[.slice A0_0 l0_0.length c0_0, .int .i64 a0_1, .int .i64 a0_2, .bool a0_3, .slice A0_4 l0_4.length c0_4]) (t := 60) ?hr ?_; (case hd => rfl); (case hg => rfl); (case hr => first | (go_simp; done) | (go_simp; rfl)); intro gb1001 hg w20 hbox hb; have n0_ := am_ (below_step bl_ hb); have n1_ := am_ (hbox); have n2_ := am_ (gs_ hg : w.heap.size ≤ gb1001); have n3_ := n2_; clear HB; have HB := n0_; have BK1001 := n1_; have GW1001 := n2_; have GE1001 := n3_; clear n0_ n1_ n2_ n3_; clear hb hbox hg; have hcz21_0 := bc5_0 BK1001; have hcz21_1 := bc5_1 BK1001; have hcz21_2 := bc5_2 BK1001; have hcz21_3 := bc5_3 BK1001; have hcz21_4 := bc5_4 BK1001; have hfz21_0 := bf_ BK1001 0; have hfz21_1 := bf_ BK1001 1; have hfz21_2 := bf_ BK1001 2; have hfz21_3 := bf_ BK1001 3; have hfz21_4 := bf_ BK1001 4) | ((with_reducible refine gate_callee (f := 91) rfl ?_); refine goesL_ (some 5) rfl rfl Try.func91 (by kernel_rfl) rfl #[.slice A0_0 l0_0.length c0_0] rfl ag_ ?_; (with_reducible refine (impl_GoodLabels.calls k _ _ l0_0 true _ ?side1 ?side2 A2.out).mono ?_); (case side1 => exact cc_ (Kd.C_below HR0_0.out HB.out)); (case side2 => exact HC0_0.out); rintro e w22 ⟨rfl, hb⟩; refine ⟨_, rfl, ?_⟩; have n0_ := am_ (blk_below (g := gb1001) (vk_ BK1001) hb); have n1_ := am_ (below_step bg_ hb); clear BK1001; clear HB; have BK1001 := n0_; have HB := n1_; clear n0_ n1_; (try clear hb); (try clear hb2); (try clear hk); (try clear hi); have hcz23_0 := bc5_0 BK1001; have hcz23_1 := bc5_1 BK1001; have hcz23_2 := bc5_2 BK1001; have hcz23_3 := bc5_3 BK1001; have hcz23_4 := bc5_4 BK1001; have hfz23_0 := bf_ BK1001 0; have hfz23_1 := bf_ BK1001 1; have hfz23_2 := bf_ BK1001 2; have hfz23_3 := bf_ BK1001 3; have hfz23_4 := bf_ BK1001 4) | (go_at_call 98; (with_reducible refine (impl_valueOf.calls k _ _ l0_0 (⟨#[95, 110, 97, 109, 101]⟩ : ByteArray) t1003 _ ?side1 ?side2 A5.out).mono ?_); (case side1 => exact cc_ (Kd.C_below HR0_0.out HB.out)); (case side2 => exact HC0_0.out); rintro e w24 ⟨rfl, hb⟩; have n0_ := am_ (blk_below (g := gb1001) (vk_ BK1001) hb); have n1_ := am_ (below_step bg_ hb); clear BK1001; clear HB; have BK1001 := n0_; have HB := n1_; clear n0_ n1_; (try clear hb); (try clear hb2); (try clear hk); (try clear hi); have hcz25_0 := bc5_0 BK1001; have hcz25_1 := bc5_1 BK1001; have hcz25_2 := bc5_2 BK1001; have hcz25_3 := bc5_3 BK1001; have hcz25_4 := bc5_4 BK1001; have hfz25_0 := bf_ BK1001 0; have hfz25_1 := bf_ BK1001 1; have hfz25_2 := bf_ BK1001 2; have hfz25_3 := bf_ BK1001 3; have hfz25_4 := bf_ BK1001 4))
         go_ret
         exact ⟨rf_, bg_⟩
       ·rw [if_neg c10] at H
        have c10b0 : decide (a0_2 ≤ 1000) = false := decide_eq_false c10
        clear c10
        obtain rfl := Option.some.inj H
        go_enter Try.func44, Try.ntmps44
        go_wp2_with (first | ((with_reducible refine gate_dst (N := 1) rfl ?_); (try (refine gate_guard (by rfl) ?_; dsimp only)); refine box_event ?hg (N := 1) ?hd (cs := #[.slice A0_0 l0_0.length c0_0, .int .i64 a0_1, .int .i64 a0_2, .bool a0_3, .slice A0_4 l0_4.length c0_4]) (t := 60) ?hr ?_; (case hd => rfl); (case hg => rfl); (case hr => first | (go_simp; done) | (go_simp; rfl)); intro gb1001 hg w26 hbox hb; have n0_ := am_ (below_step bl_ hb); have n1_ := am_ (hbox); have n2_ := am_ (gs_ hg : w.heap.size ≤ gb1001); have n3_ := n2_; clear HB; have HB := n0_; have BK1001 := n1_; have GW1001 := n2_; have GE1001 := n3_; clear n0_ n1_ n2_ n3_; clear hb hbox hg; have hcz27_0 := bc5_0 BK1001; have hcz27_1 := bc5_1 BK1001; have hcz27_2 := bc5_2 BK1001; have hcz27_3 := bc5_3 BK1001; have hcz27_4 := bc5_4 BK1001; have hfz27_0 := bf_ BK1001 0; have hfz27_1 := bf_ BK1001 1; have hfz27_2 := bf_ BK1001 2; have hfz27_3 := bf_ BK1001 3; have hfz27_4 := bf_ BK1001 4) | ((with_reducible refine gate_callee (f := 91) rfl ?_); refine goesL_ (some 5) rfl rfl Try.func91 (by kernel_rfl) rfl #[.slice A0_0 l0_0.length c0_0] rfl ag_ ?_; (with_reducible refine (impl_GoodLabels.calls k _ _ l0_0 true _ ?side1 ?side2 A2.out).mono ?_); (case side1 => exact cc_ (Kd.C_below HR0_0.out HB.out)); (case side2 => exact HC0_0.out); rintro e w28 ⟨rfl, hb⟩; refine ⟨_, rfl, ?_⟩; have n0_ := am_ (blk_below (g := gb1001) (vk_ BK1001) hb); have n1_ := am_ (below_step bg_ hb); clear BK1001; clear HB; have BK1001 := n0_; have HB := n1_; clear n0_ n1_; (try clear hb); (try clear hb2); (try clear hk); (try clear hi); have hcz29_0 := bc5_0 BK1001; have hcz29_1 := bc5_1 BK1001; have hcz29_2 := bc5_2 BK1001; have hcz29_3 := bc5_3 BK1001; have hcz29_4 := bc5_4 BK1001; have hfz29_0 := bf_ BK1001 0; have hfz29_1 := bf_ BK1001 1; have hfz29_2 := bf_ BK1001 2; have hfz29_3 := bf_ BK1001 3; have hfz29_4 := bf_ BK1001 4) | (go_at_call 98; (with_reducible refine (impl_valueOf.calls k _ _ l0_0 (⟨#[95, 110, 97, 109, 101]⟩ : ByteArray) t1003 _ ?side1 ?side2 A5.out).mono ?_); (case side1 => exact cc_ (Kd.C_below HR0_0.out HB.out)); (case side2 => exact HC0_0.out); rintro e w30 ⟨rfl, hb⟩; have n0_ := am_ (blk_below (g := gb1001) (vk_ BK1001) hb); have n1_ := am_ (below_step bg_ hb); clear BK1001; clear HB; have BK1001 := n0_; have HB := n1_; clear n0_ n1_; (try clear hb); (try clear hb2); (try clear hk); (try clear hi); have hcz31_0 := bc5_0 BK1001; have hcz31_1 := bc5_1 BK1001; have hcz31_2 := bc5_2 BK1001; have hcz31_3 := bc5_3 BK1001; have hcz31_4 := bc5_4 BK1001; have hfz31_0 := bf_ BK1001 0; have hfz31_1 := bf_ BK1001 1; have hfz31_2 := bf_ BK1001 2; have hfz31_3 := bf_ BK1001 3; have hfz31_4 := bf_ BK1001 4))
        go_ret
        exact ⟨rf_, bg_⟩
      ·rw [if_neg c9] at H
       have c9b0 : decide (0 ≤ a0_2) = false := decide_eq_false c9
       clear c9
       obtain rfl := Option.some.inj H
       go_enter Try.func44, Try.ntmps44
       go_wp2_with (first | ((with_reducible refine gate_dst (N := 1) rfl ?_); (try (refine gate_guard (by rfl) ?_; dsimp only)); refine box_event ?hg (N := 1) ?hd (cs := #[.slice A0_0 l0_0.length c0_0, .int .i64 a0_1, .int .i64 a0_2, .bool a0_3, .slice A0_4 l0_4.length c0_4]) (t := 60) ?hr ?_; (case hd => rfl); (case hg => rfl); (case hr => first | (go_simp; done) | (go_simp; rfl)); intro gb1001 hg w32 hbox hb; have n0_ := am_ (below_step bl_ hb); have n1_ := am_ (hbox); have n2_ := am_ (gs_ hg : w.heap.size ≤ gb1001); have n3_ := n2_; clear HB; have HB := n0_; have BK1001 := n1_; have GW1001 := n2_; have GE1001 := n3_; clear n0_ n1_ n2_ n3_; clear hb hbox hg; have hcz33_0 := bc5_0 BK1001; have hcz33_1 := bc5_1 BK1001; have hcz33_2 := bc5_2 BK1001; have hcz33_3 := bc5_3 BK1001; have hcz33_4 := bc5_4 BK1001; have hfz33_0 := bf_ BK1001 0; have hfz33_1 := bf_ BK1001 1; have hfz33_2 := bf_ BK1001 2; have hfz33_3 := bf_ BK1001 3; have hfz33_4 := bf_ BK1001 4) | ((with_reducible refine gate_callee (f := 91) rfl ?_); refine goesL_ (some 5) rfl rfl Try.func91 (by kernel_rfl) rfl #[.slice A0_0 l0_0.length c0_0] rfl ag_ ?_; (with_reducible refine (impl_GoodLabels.calls k _ _ l0_0 true _ ?side1 ?side2 A2.out).mono ?_); (case side1 => exact cc_ (Kd.C_below HR0_0.out HB.out)); (case side2 => exact HC0_0.out); rintro e w34 ⟨rfl, hb⟩; refine ⟨_, rfl, ?_⟩; have n0_ := am_ (blk_below (g := gb1001) (vk_ BK1001) hb); have n1_ := am_ (below_step bg_ hb); clear BK1001; clear HB; have BK1001 := n0_; have HB := n1_; clear n0_ n1_; (try clear hb); (try clear hb2); (try clear hk); (try clear hi); have hcz35_0 := bc5_0 BK1001; have hcz35_1 := bc5_1 BK1001; have hcz35_2 := bc5_2 BK1001; have hcz35_3 := bc5_3 BK1001; have hcz35_4 := bc5_4 BK1001; have hfz35_0 := bf_ BK1001 0; have hfz35_1 := bf_ BK1001 1; have hfz35_2 := bf_ BK1001 2; have hfz35_3 := bf_ BK1001 3; have hfz35_4 := bf_ BK1001 4) | (go_at_call 98; (with_reducible refine (impl_valueOf.calls k _ _ l0_0 (⟨#[95, 110, 97, 109, 101]⟩ : ByteArray) t1003 _ ?side1 ?side2 A5.out).mono ?_); (case side1 => exact cc_ (Kd.C_below HR0_0.out HB.out)); (case side2 => exact HC0_0.out); rintro e w36 ⟨rfl, hb⟩; have n0_ := am_ (blk_below (g := gb1001) (vk_ BK1001) hb); have n1_ := am_ (below_step bg_ hb); clear BK1001; clear HB; have BK1001 := n0_; have HB := n1_; clear n0_ n1_; (try clear hb); (try clear hb2); (try clear hk); (try clear hi); have hcz37_0 := bc5_0 BK1001; have hcz37_1 := bc5_1 BK1001; have hcz37_2 := bc5_2 BK1001; have hcz37_3 := bc5_3 BK1001; have hcz37_4 := bc5_4 BK1001; have hfz37_0 := bf_ BK1001 0; have hfz37_1 := bf_ BK1001 1; have hfz37_2 := bf_ BK1001 2; have hfz37_3 := bf_ BK1001 3; have hfz37_4 := bf_ BK1001 4))
       go_ret
       exact ⟨rf_, bg_⟩
     ·rw [if_neg c8] at H
      have c8b0 : decide (a0_1 ≤ 3600) = false := decide_eq_false c8
      clear c8
      obtain rfl := Option.some.inj H
      go_enter Try.func44, Try.ntmps44
      go_wp2_with (first | ((with_reducible refine gate_dst (N := 1) rfl ?_); (try (refine gate_guard (by rfl) ?_; dsimp only)); refine box_event ?hg (N := 1) ?hd (cs := #[.slice A0_0 l0_0.length c0_0, .int .i64 a0_1, .int .i64 a0_2, .bool a0_3, .slice A0_4 l0_4.length c0_4]) (t := 60) ?hr ?_; (case hd => rfl); (case hg => rfl); (case hr => first | (go_simp; done) | (go_simp; rfl)); intro gb1001 hg w38 hbox hb; have n0_ := am_ (below_step bl_ hb); have n1_ := am_ (hbox); have n2_ := am_ (gs_ hg : w.heap.size ≤ gb1001); have n3_ := n2_; clear HB; have HB := n0_; have BK1001 := n1_; have GW1001 := n2_; have GE1001 := n3_; clear n0_ n1_ n2_ n3_; clear hb hbox hg; have hcz39_0 := bc5_0 BK1001; have hcz39_1 := bc5_1 BK1001; have hcz39_2 := bc5_2 BK1001; have hcz39_3 := bc5_3 BK1001; have hcz39_4 := bc5_4 BK1001; have hfz39_0 := bf_ BK1001 0; have hfz39_1 := bf_ BK1001 1; have hfz39_2 := bf_ BK1001 2; have hfz39_3 := bf_ BK1001 3; have hfz39_4 := bf_ BK1001 4) | ((with_reducible refine gate_callee (f := 91) rfl ?_); refine goesL_ (some 5) rfl rfl Try.func91 (by kernel_rfl) rfl #[.slice A0_0 l0_0.length c0_0] rfl ag_ ?_; (with_reducible refine (impl_GoodLabels.calls k _ _ l0_0 true _ ?side1 ?side2 A2.out).mono ?_); (case side1 => exact cc_ (Kd.C_below HR0_0.out HB.out)); (case side2 => exact HC0_0.out); rintro e w40 ⟨rfl, hb⟩; refine ⟨_, rfl, ?_⟩; have n0_ := am_ (blk_below (g := gb1001) (vk_ BK1001) hb); have n1_ := am_ (below_step bg_ hb); clear BK1001; clear HB; have BK1001 := n0_; have HB := n1_; clear n0_ n1_; (try clear hb); (try clear hb2); (try clear hk); (try clear hi); have hcz41_0 := bc5_0 BK1001; have hcz41_1 := bc5_1 BK1001; have hcz41_2 := bc5_2 BK1001; have hcz41_3 := bc5_3 BK1001; have hcz41_4 := bc5_4 BK1001; have hfz41_0 := bf_ BK1001 0; have hfz41_1 := bf_ BK1001 1; have hfz41_2 := bf_ BK1001 2; have hfz41_3 := bf_ BK1001 3; have hfz41_4 := bf_ BK1001 4) | (go_at_call 98; (with_reducible refine (impl_valueOf.calls k _ _ l0_0 (⟨#[95, 110, 97, 109, 101]⟩ : ByteArray) t1003 _ ?side1 ?side2 A5.out).mono ?_); (case side1 => exact cc_ (Kd.C_below HR0_0.out HB.out)); (case side2 => exact HC0_0.out); rintro e w42 ⟨rfl, hb⟩; have n0_ := am_ (blk_below (g := gb1001) (vk_ BK1001) hb); have n1_ := am_ (below_step bg_ hb); clear BK1001; clear HB; have BK1001 := n0_; have HB := n1_; clear n0_ n1_; (try clear hb); (try clear hb2); (try clear hk); (try clear hi); have hcz43_0 := bc5_0 BK1001; have hcz43_1 := bc5_1 BK1001; have hcz43_2 := bc5_2 BK1001; have hcz43_3 := bc5_3 BK1001; have hcz43_4 := bc5_4 BK1001; have hfz43_0 := bf_ BK1001 0; have hfz43_1 := bf_ BK1001 1; have hfz43_2 := bf_ BK1001 2; have hfz43_3 := bf_ BK1001 3; have hfz43_4 := bf_ BK1001 4))
      go_ret
      exact ⟨rf_, bg_⟩
    ·rw [if_neg c7] at H
     have c7b0 : decide (1 ≤ a0_1) = false := decide_eq_false c7
     clear c7
     obtain rfl := Option.some.inj H
     go_enter Try.func44, Try.ntmps44
     go_wp2_with (first | ((with_reducible refine gate_dst (N := 1) rfl ?_); (try (refine gate_guard (by rfl) ?_; dsimp only)); refine box_event ?hg (N := 1) ?hd (cs := #[.slice A0_0 l0_0.length c0_0, .int .i64 a0_1, .int .i64 a0_2, .bool a0_3, .slice A0_4 l0_4.length c0_4]) (t := 60) ?hr ?_; (case hd => rfl); (case hg => rfl); (case hr => first | (go_simp; done) | (go_simp; rfl)); intro gb1001 hg w44 hbox hb; have n0_ := am_ (below_step bl_ hb); have n1_ := am_ (hbox); have n2_ := am_ (gs_ hg : w.heap.size ≤ gb1001); have n3_ := n2_; clear HB; have HB := n0_; have BK1001 := n1_; have GW1001 := n2_; have GE1001 := n3_; clear n0_ n1_ n2_ n3_; clear hb hbox hg; have hcz45_0 := bc5_0 BK1001; have hcz45_1 := bc5_1 BK1001; have hcz45_2 := bc5_2 BK1001; have hcz45_3 := bc5_3 BK1001; have hcz45_4 := bc5_4 BK1001; have hfz45_0 := bf_ BK1001 0; have hfz45_1 := bf_ BK1001 1; have hfz45_2 := bf_ BK1001 2; have hfz45_3 := bf_ BK1001 3; have hfz45_4 := bf_ BK1001 4) | ((with_reducible refine gate_callee (f := 91) rfl ?_); refine goesL_ (some 5) rfl rfl Try.func91 (by kernel_rfl) rfl #[.slice A0_0 l0_0.length c0_0] rfl ag_ ?_; (with_reducible refine (impl_GoodLabels.calls k _ _ l0_0 true _ ?side1 ?side2 A2.out).mono ?_); (case side1 => exact cc_ (Kd.C_below HR0_0.out HB.out)); (case side2 => exact HC0_0.out); rintro e w46 ⟨rfl, hb⟩; refine ⟨_, rfl, ?_⟩; have n0_ := am_ (blk_below (g := gb1001) (vk_ BK1001) hb); have n1_ := am_ (below_step bg_ hb); clear BK1001; clear HB; have BK1001 := n0_; have HB := n1_; clear n0_ n1_; (try clear hb); (try clear hb2); (try clear hk); (try clear hi); have hcz47_0 := bc5_0 BK1001; have hcz47_1 := bc5_1 BK1001; have hcz47_2 := bc5_2 BK1001; have hcz47_3 := bc5_3 BK1001; have hcz47_4 := bc5_4 BK1001; have hfz47_0 := bf_ BK1001 0; have hfz47_1 := bf_ BK1001 1; have hfz47_2 := bf_ BK1001 2; have hfz47_3 := bf_ BK1001 3; have hfz47_4 := bf_ BK1001 4) | (go_at_call 98; (with_reducible refine (impl_valueOf.calls k _ _ l0_0 (⟨#[95, 110, 97, 109, 101]⟩ : ByteArray) t1003 _ ?side1 ?side2 A5.out).mono ?_); (case side1 => exact cc_ (Kd.C_below HR0_0.out HB.out)); (case side2 => exact HC0_0.out); rintro e w48 ⟨rfl, hb⟩; have n0_ := am_ (blk_below (g := gb1001) (vk_ BK1001) hb); have n1_ := am_ (below_step bg_ hb); clear BK1001; clear HB; have BK1001 := n0_; have HB := n1_; clear n0_ n1_; (try clear hb); (try clear hb2); (try clear hk); (try clear hi); have hcz49_0 := bc5_0 BK1001; have hcz49_1 := bc5_1 BK1001; have hcz49_2 := bc5_2 BK1001; have hcz49_3 := bc5_3 BK1001; have hcz49_4 := bc5_4 BK1001; have hfz49_0 := bf_ BK1001 0; have hfz49_1 := bf_ BK1001 1; have hfz49_2 := bf_ BK1001 2; have hfz49_3 := bf_ BK1001 3; have hfz49_4 := bf_ BK1001 4))
     go_ret
     exact ⟨rf_, bg_⟩
   ·rw [if_neg c6] at H
    have c6b0 : (t1003.toList == ([] : List UInt8)) = false := beq_eq_false_iff_ne.mpr c6
    have c6b1 : (t1003.toList != ([] : List UInt8)) = true := bne_iff_ne.mpr c6
    obtain rfl := Option.some.inj H
    go_enter Try.func44, Try.ntmps44
    go_wp2_with (first | ((with_reducible refine gate_dst (N := 1) rfl ?_); (try (refine gate_guard (by rfl) ?_; dsimp only)); refine box_event ?hg (N := 1) ?hd (cs := #[.slice A0_0 l0_0.length c0_0, .int .i64 a0_1, .int .i64 a0_2, .bool a0_3, .slice A0_4 l0_4.length c0_4]) (t := 60) ?hr ?_; (case hd => rfl); (case hg => rfl); (case hr => first | (go_simp; done) | (go_simp; rfl)); intro gb1001 hg w50 hbox hb; have n0_ := am_ (below_step bl_ hb); have n1_ := am_ (hbox); have n2_ := am_ (gs_ hg : w.heap.size ≤ gb1001); have n3_ := n2_; clear HB; have HB := n0_; have BK1001 := n1_; have GW1001 := n2_; have GE1001 := n3_; clear n0_ n1_ n2_ n3_; clear hb hbox hg; have hcz51_0 := bc5_0 BK1001; have hcz51_1 := bc5_1 BK1001; have hcz51_2 := bc5_2 BK1001; have hcz51_3 := bc5_3 BK1001; have hcz51_4 := bc5_4 BK1001; have hfz51_0 := bf_ BK1001 0; have hfz51_1 := bf_ BK1001 1; have hfz51_2 := bf_ BK1001 2; have hfz51_3 := bf_ BK1001 3; have hfz51_4 := bf_ BK1001 4) | ((with_reducible refine gate_callee (f := 91) rfl ?_); refine goesL_ (some 5) rfl rfl Try.func91 (by kernel_rfl) rfl #[.slice A0_0 l0_0.length c0_0] rfl ag_ ?_; (with_reducible refine (impl_GoodLabels.calls k _ _ l0_0 true _ ?side1 ?side2 A2.out).mono ?_); (case side1 => exact cc_ (Kd.C_below HR0_0.out HB.out)); (case side2 => exact HC0_0.out); rintro e w52 ⟨rfl, hb⟩; refine ⟨_, rfl, ?_⟩; have n0_ := am_ (blk_below (g := gb1001) (vk_ BK1001) hb); have n1_ := am_ (below_step bg_ hb); clear BK1001; clear HB; have BK1001 := n0_; have HB := n1_; clear n0_ n1_; (try clear hb); (try clear hb2); (try clear hk); (try clear hi); have hcz53_0 := bc5_0 BK1001; have hcz53_1 := bc5_1 BK1001; have hcz53_2 := bc5_2 BK1001; have hcz53_3 := bc5_3 BK1001; have hcz53_4 := bc5_4 BK1001; have hfz53_0 := bf_ BK1001 0; have hfz53_1 := bf_ BK1001 1; have hfz53_2 := bf_ BK1001 2; have hfz53_3 := bf_ BK1001 3; have hfz53_4 := bf_ BK1001 4) | (go_at_call 98; (with_reducible refine (impl_valueOf.calls k _ _ l0_0 (⟨#[95, 110, 97, 109, 101]⟩ : ByteArray) t1003 _ ?side1 ?side2 A5.out).mono ?_); (case side1 => exact cc_ (Kd.C_below HR0_0.out HB.out)); (case side2 => exact HC0_0.out); rintro e w54 ⟨rfl, hb⟩; have n0_ := am_ (blk_below (g := gb1001) (vk_ BK1001) hb); have n1_ := am_ (below_step bg_ hb); clear BK1001; clear HB; have BK1001 := n0_; have HB := n1_; clear n0_ n1_; (try clear hb); (try clear hb2); (try clear hk); (try clear hi)))
    go_ret
    exact ⟨rf_, bg_⟩
  ·rw [if_neg c4] at H
   have c4b0 : decide ((l0_0.length : Int) < 20) = false := decide_eq_false c4
   have c4b1 : decide (l0_0.length < 20) = false := decide_eq_false (by omega)
   clear c4
   obtain rfl := Option.some.inj H
   go_enter Try.func44, Try.ntmps44
   go_wp2_with (first | ((with_reducible refine gate_dst (N := 1) rfl ?_); (try (refine gate_guard (by rfl) ?_; dsimp only)); refine box_event ?hg (N := 1) ?hd (cs := #[.slice A0_0 l0_0.length c0_0, .int .i64 a0_1, .int .i64 a0_2, .bool a0_3, .slice A0_4 l0_4.length c0_4]) (t := 60) ?hr ?_; (case hd => rfl); (case hg => rfl); (case hr => first | (go_simp; done) | (go_simp; rfl)); intro gb1001 hg w55 hbox hb; have n0_ := am_ (below_step bl_ hb); have n1_ := am_ (hbox); have n2_ := am_ (gs_ hg : w.heap.size ≤ gb1001); have n3_ := n2_; clear HB; have HB := n0_; have BK1001 := n1_; have GW1001 := n2_; have GE1001 := n3_; clear n0_ n1_ n2_ n3_; clear hb hbox hg; have hcz56_0 := bc5_0 BK1001; have hcz56_1 := bc5_1 BK1001; have hcz56_2 := bc5_2 BK1001; have hcz56_3 := bc5_3 BK1001; have hcz56_4 := bc5_4 BK1001; have hfz56_0 := bf_ BK1001 0; have hfz56_1 := bf_ BK1001 1; have hfz56_2 := bf_ BK1001 2; have hfz56_3 := bf_ BK1001 3; have hfz56_4 := bf_ BK1001 4) | ((with_reducible refine gate_callee (f := 91) rfl ?_); refine goesL_ (some 5) rfl rfl Try.func91 (by kernel_rfl) rfl #[.slice A0_0 l0_0.length c0_0] rfl ag_ ?_; (with_reducible refine (impl_GoodLabels.calls k _ _ l0_0 true _ ?side1 ?side2 A2.out).mono ?_); (case side1 => exact cc_ (Kd.C_below HR0_0.out HB.out)); (case side2 => exact HC0_0.out); rintro e w57 ⟨rfl, hb⟩; refine ⟨_, rfl, ?_⟩; have n0_ := am_ (blk_below (g := gb1001) (vk_ BK1001) hb); have n1_ := am_ (below_step bg_ hb); clear BK1001; clear HB; have BK1001 := n0_; have HB := n1_; clear n0_ n1_; (try clear hb); (try clear hb2); (try clear hk); (try clear hi); have hcz58_0 := bc5_0 BK1001; have hcz58_1 := bc5_1 BK1001; have hcz58_2 := bc5_2 BK1001; have hcz58_3 := bc5_3 BK1001; have hcz58_4 := bc5_4 BK1001; have hfz58_0 := bf_ BK1001 0; have hfz58_1 := bf_ BK1001 1; have hfz58_2 := bf_ BK1001 2; have hfz58_3 := bf_ BK1001 3; have hfz58_4 := bf_ BK1001 4))
   go_ret
   exact ⟨rf_, bg_⟩
 ·replace c3 := Bool.eq_false_iff.mpr c3
  subst c3
  have H1 : (some false) = some r := by rw [if_neg (show ¬ (false = true) by decide)] at H; exact H
  clear H
  have H := H1
  clear H1
  obtain rfl := Option.some.inj H
  go_enter Try.func44, Try.ntmps44
  go_wp2_with (first | ((with_reducible refine gate_dst (N := 1) rfl ?_); (try (refine gate_guard (by rfl) ?_; dsimp only)); refine box_event ?hg (N := 1) ?hd (cs := #[.slice A0_0 l0_0.length c0_0, .int .i64 a0_1, .int .i64 a0_2, .bool a0_3, .slice A0_4 l0_4.length c0_4]) (t := 60) ?hr ?_; (case hd => rfl); (case hg => rfl); (case hr => first | (go_simp; done) | (go_simp; rfl)); intro gb1001 hg w59 hbox hb; have n0_ := am_ (below_step bl_ hb); have n1_ := am_ (hbox); have n2_ := am_ (gs_ hg : w.heap.size ≤ gb1001); have n3_ := n2_; clear HB; have HB := n0_; have BK1001 := n1_; have GW1001 := n2_; have GE1001 := n3_; clear n0_ n1_ n2_ n3_; clear hb hbox hg; have hcz60_0 := bc5_0 BK1001; have hcz60_1 := bc5_1 BK1001; have hcz60_2 := bc5_2 BK1001; have hcz60_3 := bc5_3 BK1001; have hcz60_4 := bc5_4 BK1001; have hfz60_0 := bf_ BK1001 0; have hfz60_1 := bf_ BK1001 1; have hfz60_2 := bf_ BK1001 2; have hfz60_3 := bf_ BK1001 3; have hfz60_4 := bf_ BK1001 4) | ((with_reducible refine gate_callee (f := 91) rfl ?_); refine goesL_ (some 5) rfl rfl Try.func91 (by kernel_rfl) rfl #[.slice A0_0 l0_0.length c0_0] rfl ag_ ?_; (with_reducible refine (impl_GoodLabels.calls k _ _ l0_0 false _ ?side1 ?side2 A2.out).mono ?_); (case side1 => exact cc_ (Kd.C_below HR0_0.out HB.out)); (case side2 => exact HC0_0.out); rintro e w61 ⟨rfl, hb⟩; refine ⟨_, rfl, ?_⟩; have n0_ := am_ (blk_below (g := gb1001) (vk_ BK1001) hb); have n1_ := am_ (below_step bg_ hb); clear BK1001; clear HB; have BK1001 := n0_; have HB := n1_; clear n0_ n1_; (try clear hb); (try clear hb2); (try clear hk); (try clear hi)))
  go_ret
  exact ⟨rf_, bg_⟩

end Go.Proofs.Ytnnlgbpfdnaalaa.Pr
