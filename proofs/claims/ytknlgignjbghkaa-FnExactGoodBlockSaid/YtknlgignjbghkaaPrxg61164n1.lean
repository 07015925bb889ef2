/- Functions of the given program as plain Lean functions, and that the machine's calls come to them; written by a program of this session; no condition but those that each theorem states. -/
import Derived.Test.YtknlgignjbghkaaPrx0
import Derived.Test.YtknlgignjbghkaaPrxg5da37n1
namespace Go.Proofs.Ytknlgignjbghkaa.Pr
open Go.RowKit Go.Proofs.YtknlgignjbghkaaW.PrintWords Go.Proofs.YtknlgignjbghkaaW.PrintLast Go.Proofs.YtknlgignjbghkaaW.PrintMore
attribute [local go_sem] max2_int min2_int max_two min_two max_three min_three max_four min_four   -- for this text's walks alone
set_option linter.unusedVariables false
set_option linter.unusedSimpArgs false

/-! ### laws_szSampleS: function 107 -/
def laws_szSampleS.f (l0 : List (S180)) (a1 : Int) : Option (Int) := if (wrap64 (a1 - (l0.length : Int))) < 0 then (some (-1)) else (some (wrap64 (a1 - (l0.length : Int))))
set_option maxHeartbeats 8000000 in
set_option maxRecDepth 100000 in
theorem laws_szSampleS.calls (A0 : Option Addr) (c0 : Nat) (l0 : List (S180)) (a1 : Int) (r : Int) (w : World) (hr0 : Kd.C k180 w A0 l0.length l0) (hc0 : l0.length ≤ c0) (h : laws_szSampleS.f l0 a1 = some r) :
  Calls Try.prog 107 #[.slice A0 l0.length c0, .int .i64 a1] w fun e w' => e = .returned (.int .i64 r) ∧ Drawn0 w w' := by
 have HR0 := am_ hr0
 have HC0 := am_ hc0
 clear hr0 hc0
 have H : (if (wrap64 (a1 - (l0.length : Int))) < 0 then (some (-1)) else (some (wrap64 (a1 - (l0.length : Int))))) = some r := h
 clear h
 by_cases c3 : (wrap64 (a1 - (l0.length : Int))) < 0
 ·rw [if_pos c3] at H
  have c3b0 : decide ((wrap64 (a1 - (l0.length : Int))) < 0) = true := decide_eq_true c3
  clear c3
  obtain rfl := Option.some.inj H
  go_enter Try.func107, Try.ntmps107
  go_wp2
  go_ret
  exact ⟨by first | rfl | (simp; done) | (simp [*]; done), by repeat (first | exact Drawn0.refl _ | apply Drawn0.step)⟩
 ·rw [if_neg c3] at H
  have c3b0 : decide ((wrap64 (a1 - (l0.length : Int))) < 0) = false := decide_eq_false c3
  clear c3
  obtain rfl := Option.some.inj H
  go_enter Try.func107, Try.ntmps107
  go_wp2
  go_ret
  exact ⟨by first | rfl | (simp; done) | (simp [*]; done), by repeat (first | exact Drawn0.refl _ | apply Drawn0.step)⟩

/-! ### laws_szSeries: function 58 -/
def laws_szSeries.f (k : Nat) (l0_0 : List (S105)) (l0_1 : List (S180)) (a1 : Int) : Option (Int) := (laws_szLabelS.f k l0_0 a1).bind fun t1002 => (if t1002 < 0 then (some (-1)) else ((laws_szSampleS.f l0_1 t1002).bind fun t1003 => (if t1003 < 0 then (some (-1)) else (some t1003))))
theorem laws_szSeries.mono : ∀ a0 a1 a2 k, LeO (laws_szSeries.f k a0 a1 a2) (laws_szSeries.f (k + 1) a0 a1 a2) := by
 intro a0 a1 a2 k
 unfold laws_szSeries.f
 repeat' first
   | with_reducible first | exact laws_szLabelS.mono _ _ _ | exact LeO.refl _ | exact LeO.none _ | refine LeO.ite ?_ ?_ | refine LeO.bind ?_ (fun _ => ?_)
   | exact laws_szLabelS.mono _ _ _
   | exact LeO.none _
   | refine LeO.ite ?_ ?_
   | refine LeO.bind ?_ (fun _ => ?_)
set_option maxHeartbeats 8000000 in
set_option maxRecDepth 100000 in
theorem laws_szSeries.calls (k : Nat) (A0_0 : Option Addr) (c0_0 : Nat) (l0_0 : List (S105)) (A0_1 : Option Addr) (c0_1 : Nat) (l0_1 : List (S180)) (a1 : Int) (r : Int) (w : World) (hr0_0 : Kd.C k105 w A0_0 l0_0.length l0_0) (hc0_0 : l0_0.length ≤ c0_0) (hr0_1 : Kd.C k180 w A0_1 l0_1.length l0_1) (hc0_1 : l0_1.length ≤ c0_1) (h : laws_szSeries.f k l0_0 l0_1 a1 = some r) :
  Calls Try.prog 58 #[.agg #[.slice A0_0 l0_0.length c0_0, .slice A0_1 l0_1.length c0_1], .int .i64 a1] w fun e w' => e = .returned (.int .i64 r) ∧ Below w.heap.size w w' := by
 have hu98 := Try.underlying98
 have HR0_0 := am_ hr0_0
 have HC0_0 := am_ hc0_0
 clear hr0_0 hc0_0
 have HR0_1 := am_ hr0_1
 have HC0_1 := am_ hc0_1
 clear hr0_1 hc0_1
 have HB := am_ (Below.refl w.heap.size w)
 have H : ((laws_szLabelS.f k l0_0 a1).bind fun t1002 => (if t1002 < 0 then (some (-1)) else ((laws_szSampleS.f l0_1 t1002).bind fun t1003 => (if t1003 < 0 then (some (-1)) else (some t1003))))) = some r := h
 clear h
 replace H := Option.bind_eq_some_iff.mp H
 obtain ⟨t1002, A30, H⟩ := H
 replace H : (if t1002 < 0 then (some (-1)) else ((laws_szSampleS.f l0_1 t1002).bind fun t1003 => (if t1003 < 0 then (some (-1)) else (some t1003)))) = some r := H
 have A3 := am_ A30
 clear A30
 by_cases c4 : t1002 < 0
 ·rw [if_pos c4] at H
  have c4b0 : decide (t1002 < 0) = true := decide_eq_true c4
  clear c4
  obtain rfl := Option.some.inj H
  go_enter Try.func58, Try.ntmps58
  go_wp2_with (first | ((with_reducible refine gate_dst (N := 2) rfl ?_); refine bx_ 2 #[.slice A0_0 l0_0.length c0_0, .slice A0_1 l0_1.length c0_1] 98 ?_; intro gb1001 hg w5 hbox hb; have BK1001 := am_ (hbox); have GW1001 := am_ (gs_ hg : w.heap.size ≤ gb1001); replace HB := am_ (below_step bl_ hb); have GE1001 := GW1001; clear hb hbox hg; have hcz6_0 := bc2_0 BK1001; have hcz6_1 := bc2_1 BK1001; have hfz6_0 := bf_ BK1001 0; have hfz6_1 := bf_ BK1001 1) | ((with_reducible refine gate_callee (f := 21) rfl ?_); refine goesL_ (some 8) rfl rfl Try.func21 (by kernel_rfl) rfl #[.slice A0_0 l0_0.length c0_0, .int .i64 a1] rfl ag_ ?_; (with_reducible refine (laws_szLabelS.calls k _ _ l0_0 a1 t1002 _ ?side1 ?side2 A3.out).mono ?_); (case side1 => exact cc_ (Kd.C_below HR0_0.out HB.out)); (case side2 => exact HC0_0.out); rintro e w7 ⟨rfl, hb⟩; refine ⟨_, rfl, ?_⟩; replace BK1001 := am_ (blk_below (g := gb1001) (vk_ BK1001) hb); replace HB := am_ (below_step bg_ hb); (try clear hb); (try clear hb2); (try clear hk); (try clear hi)))
  go_ret
  exact ⟨rf_, bg_⟩
 ·rw [if_neg c4] at H
  have c4b0 : decide (t1002 < 0) = false := decide_eq_false c4
  clear c4
  replace H := Option.bind_eq_some_iff.mp H
  obtain ⟨t1003, A80, H⟩ := H
  replace H : (if t1003 < 0 then (some (-1)) else (some t1003)) = some r := H
  have A8 := am_ A80
  clear A80
  by_cases c9 : t1003 < 0
  ·rw [if_pos c9] at H
   have c9b0 : decide (t1003 < 0) = true := decide_eq_true c9
   clear c9
   obtain rfl := Option.some.inj H
   go_enter Try.func58, Try.ntmps58
   go_wp2_with (first | ((with_reducible refine gate_dst (N := 2) rfl ?_); refine bx_ 2 #[.slice A0_0 l0_0.length c0_0, .slice A0_1 l0_1.length c0_1] 98 ?_; intro gb1001 hg w10 hbox hb; have BK1001 := am_ (hbox); have GW1001 := am_ (gs_ hg : w.heap.size ≤ gb1001); replace HB := am_ (below_step bl_ hb); have GE1001 := GW1001; clear hb hbox hg; have hcz11_0 := bc2_0 BK1001; have hcz11_1 := bc2_1 BK1001; have hfz11_0 := bf_ BK1001 0; have hfz11_1 := bf_ BK1001 1) | ((with_reducible refine gate_callee (f := 21) rfl ?_); refine goesL_ (some 8) rfl rfl Try.func21 (by kernel_rfl) rfl #[.slice A0_0 l0_0.length c0_0, .int .i64 a1] rfl ag_ ?_; (with_reducible refine (laws_szLabelS.calls k _ _ l0_0 a1 t1002 _ ?side1 ?side2 A3.out).mono ?_); (case side1 => exact cc_ (Kd.C_below HR0_0.out HB.out)); (case side2 => exact HC0_0.out); rintro e w12 ⟨rfl, hb⟩; refine ⟨_, rfl, ?_⟩; replace BK1001 := am_ (blk_below (g := gb1001) (vk_ BK1001) hb); replace HB := am_ (below_step bg_ hb); (try clear hb); (try clear hb2); (try clear hk); (try clear hi); have hcz13_0 := bc2_0 BK1001; have hcz13_1 := bc2_1 BK1001; have hfz13_0 := bf_ BK1001 0; have hfz13_1 := bf_ BK1001 1) | ((with_reducible refine gate_callee (f := 107) rfl ?_); refine goesL_ (some 14) rfl rfl Try.func107 (by kernel_rfl) rfl #[.slice A0_1 l0_1.length c0_1, .int .i64 t1002] rfl ag_ ?_; (with_reducible refine (laws_szSampleS.calls _ _ l0_1 t1002 t1003 _ ?side1 ?side2 A8.out).mono ?_); (case side1 => exact cc_ (Kd.C_below HR0_1.out HB.out)); (case side2 => exact HC0_1.out); rintro e w' ⟨rfl, ⟨nd, rfl⟩⟩; refine ⟨_, rfl, ?_⟩))
   go_ret
   exact ⟨rf_, bg_⟩
  ·rw [if_neg c9] at H
   have c9b0 : decide (t1003 < 0) = false := decide_eq_false c9
   clear c9
   obtain rfl := Option.some.inj H
   go_enter Try.func58, Try.ntmps58
   go_wp2_with (first | ((with_reducible refine gate_dst (N := 2) rfl ?_); refine bx_ 2 #[.slice A0_0 l0_0.length c0_0, .slice A0_1 l0_1.length c0_1] 98 ?_; intro gb1001 hg w14 hbox hb; have BK1001 := am_ (hbox); have GW1001 := am_ (gs_ hg : w.heap.size ≤ gb1001); replace HB := am_ (below_step bl_ hb); have GE1001 := GW1001; clear hb hbox hg; have hcz15_0 := bc2_0 BK1001; have hcz15_1 := bc2_1 BK1001; have hfz15_0 := bf_ BK1001 0; have hfz15_1 := bf_ BK1001 1) | ((with_reducible refine gate_callee (f := 21) rfl ?_); refine goesL_ (some 8) rfl rfl Try.func21 (by kernel_rfl) rfl #[.slice A0_0 l0_0.length c0_0, .int .i64 a1] rfl ag_ ?_; (with_reducible refine (laws_szLabelS.calls k _ _ l0_0 a1 t1002 _ ?side1 ?side2 A3.out).mono ?_); (case side1 => exact cc_ (Kd.C_below HR0_0.out HB.out)); (case side2 => exact HC0_0.out); rintro e w16 ⟨rfl, hb⟩; refine ⟨_, rfl, ?_⟩; replace BK1001 := am_ (blk_below (g := gb1001) (vk_ BK1001) hb); replace HB := am_ (below_step bg_ hb); (try clear hb); (try clear hb2); (try clear hk); (try clear hi); have hcz17_0 := bc2_0 BK1001; have hcz17_1 := bc2_1 BK1001; have hfz17_0 := bf_ BK1001 0; have hfz17_1 := bf_ BK1001 1) | ((with_reducible refine gate_callee (f := 107) rfl ?_); refine goesL_ (some 14) rfl rfl Try.func107 (by kernel_rfl) rfl #[.slice A0_1 l0_1.length c0_1, .int .i64 t1002] rfl ag_ ?_; (with_reducible refine (laws_szSampleS.calls _ _ l0_1 t1002 t1003 _ ?side1 ?side2 A8.out).mono ?_); (case side1 => exact cc_ (Kd.C_below HR0_1.out HB.out)); (case side2 => exact HC0_1.out); rintro e w' ⟨rfl, ⟨nd, rfl⟩⟩; refine ⟨_, rfl, ?_⟩))
   go_ret
   exact ⟨rf_, bg_⟩

/-! ### laws_szSeriesS: function 13 -/
def laws_szSeriesS.l0 : Nat → List (S98) → Int → Int → Option (Int)
 | 0, _, _, _ => none
 | k + 1, x0, x1, x5 => if x5 < (x0.length : Int) then (if 0 ≤ x5 then ((laws_szSeries.f k ((rd_T98 x0 x5).f0) ((rd_T98 x0 x5).f1) x1).bind fun t1002 => (if t1002 < 0 then (some (-1)) else (laws_szSeriesS.l0 k x0 t1002 (wrap64 (x5 + 1))))) else (none)) else (some x1)
def laws_szSeriesS.f (k : Nat) (l0 : List (S98)) (a1 : Int) : Option (Int) := if (wrap64 (a1 - (l0.length : Int))) < 0 then (some (-1)) else (laws_szSeriesS.l0 k l0 (wrap64 (a1 - (l0.length : Int))) 0)
theorem laws_szSeriesS.mono_l : ∀ k, (∀ y0 y1 y2, LeO (laws_szSeriesS.l0 k y0 y1 y2) (laws_szSeriesS.l0 (k + 1) y0 y1 y2))
 | 0 => fun _ _ _ r h => by simp [laws_szSeriesS.l0] at h
 | k + 1 => by
  have ih0 := laws_szSeriesS.mono_l k
  ·intro y0 y1 y2
   unfold laws_szSeriesS.l0
   repeat' first
   | with_reducible first | exact ih0 _ _ _ | exact laws_szSeries.mono _ _ _ _ | exact LeO.refl _ | exact LeO.none _ | refine LeO.ite ?_ ?_ | refine LeO.bind ?_ (fun _ => ?_)
   | exact ih0 _ _ _
   | exact laws_szSeries.mono _ _ _ _
   | exact LeO.none _
   | refine LeO.ite ?_ ?_
   | refine LeO.bind ?_ (fun _ => ?_)
theorem laws_szSeriesS.mono : ∀ a0 a1 k, LeO (laws_szSeriesS.f k a0 a1) (laws_szSeriesS.f (k + 1) a0 a1) := by
 intro a0 a1 k
 have ih0 := laws_szSeriesS.mono_l k
 unfold laws_szSeriesS.f
 repeat' first
   | with_reducible first | exact ih0 _ _ _ | exact laws_szSeries.mono _ _ _ _ | exact LeO.refl _ | exact LeO.none _ | refine LeO.ite ?_ ?_ | refine LeO.bind ?_ (fun _ => ?_)
   | exact ih0 _ _ _
   | exact laws_szSeries.mono _ _ _ _
   | exact LeO.none _
   | refine LeO.ite ?_ ?_
   | refine LeO.bind ?_ (fun _ => ?_)
set_option maxHeartbeats 8000000 in
set_option maxRecDepth 100000 in
theorem laws_szSeriesS.calls (k : Nat) (A0 : Option Addr) (c0 : Nat) (l0 : List (S98)) (a1 : Int) (r : Int) (w : World) (hr0 : Kd.C k98 w A0 l0.length l0) (hc0 : l0.length ≤ c0) (h : laws_szSeriesS.f k l0 a1 = some r) :
  Calls Try.prog 13 #[.slice A0 l0.length c0, .int .i64 a1] w fun e w' => e = .returned (.int .i64 r) ∧ Below w.heap.size w w' := by
 have hu98 := Try.underlying98
 have HR0 := am_ hr0
 have HC0 := am_ hc0
 clear hr0 hc0
 have HB := am_ (Below.refl w.heap.size w)
 have H : (if (wrap64 (a1 - (l0.length : Int))) < 0 then (some (-1)) else (laws_szSeriesS.l0 k l0 (wrap64 (a1 - (l0.length : Int))) 0)) = some r := h
 clear h
 by_cases c3 : (wrap64 (a1 - (l0.length : Int))) < 0
 ·rw [if_pos c3] at H
  have c3b0 : decide ((wrap64 (a1 - (l0.length : Int))) < 0) = true := decide_eq_true c3
  clear c3
  obtain rfl := Option.some.inj H
  go_enter Try.func13, Try.ntmps13
  go_wp2
  go_ret
  exact ⟨rf_, bl_⟩
 ·rw [if_neg c3] at H
  have c3b0 : decide ((wrap64 (a1 - (l0.length : Int))) < 0) = false := decide_eq_false c3
  clear c3
  have H' := am_ H
  clear H
  go_enter Try.func13, Try.ntmps13
  go_wp2
  go_loopg [1, 5] k (fun kq v1 v5 w' => ∃ (x1_1 : Int) (x5_1 : Int), v1 = .int .i64 x1_1 ∧ v5 = .int .i64 x5_1 ∧ Aside0 (laws_szSeriesS.l0 kq l0 x1_1 x5_1 = some r) ∧ Aside0 (kq ≤ k) ∧ Aside0 (Below w.heap.size w w'))
  case atStart => exact ⟨(wrap64 (a1 - (l0.length : Int))), (0), rs_, rs_, H', ⟨Nat.le_refl _⟩, ⟨bl_⟩⟩
  case round =>
   clear H'
   try clear c1
   try clear p2
   try clear c3
   try clear c3b0
   obtain ⟨x1_1, x5_1, rfl, rfl, HA, HK1, HB⟩ := hrel
   cases gk with
   | zero => exact absurd HA.out (by simp [laws_szSeriesS.l0])
   | succ k1 =>
    have H := HA.out
    clear HA
    simp only [laws_szSeriesS.l0] at H
    by_cases c4 : x5_1 < (l0.length : Int)
    ·rw [if_pos c4] at H
     have c4b0 : decide (x5_1 < (l0.length : Int)) = true := decide_eq_true c4
     clear c4
     by_cases c5 : 0 ≤ x5_1
     ·rw [if_pos c5] at H
      have c5b0 : decide (0 ≤ x5_1) = true := decide_eq_true c5
      clear c5
      replace H := Option.bind_eq_some_iff.mp H
      obtain ⟨t1002, A60, H⟩ := H
      replace H : (if t1002 < 0 then (some (-1)) else (laws_szSeriesS.l0 k1 l0 t1002 (wrap64 (x5_1 + 1)))) = some r := H
      have A6 := am_ A60
      clear A60
      by_cases c7 : t1002 < 0
      ·rw [if_pos c7] at H
       have c7b0 : decide (t1002 < 0) = true := decide_eq_true c7
       clear c7
       obtain rfl := Option.some.inj H
       have p1001 : 0 ≤ (x5_1 : Int) := od_
       have q1001 : x5_1 < (l0.length : Int) := od_
       obtain ⟨ad1001, A1001_0, c1001_0, A1001_1, c1001_1, e1001, hx1001_0, hx1001_1, hl1001_0, hi1001_0, hl1001_1, hi1001_1⟩ := at_T98 HR0.out x5_1 p1001 q1001
       cases e1001
       replace hx1001_0 := kp_ HB hx1001_0
       replace hx1001_1 := kp_ HB hx1001_1
       have HR1001_0 := am_ hi1001_0
       have HC1001_0 := am_ hl1001_0
       clear hi1001_0 hl1001_0
       have HR1001_1 := am_ hi1001_1
       have HC1001_1 := am_ hl1001_1
       clear hi1001_1 hl1001_1
       replace p1001 := eq_true p1001
       replace q1001 := eq_true q1001
       go_wp2_with (first | ((with_reducible refine gate_callee (f := 58) rfl ?_); refine goesL_ (some 23) rfl rfl Try.func58 (by kernel_rfl) rfl #[.agg #[.slice A1001_0 ((rd_T98 l0 x5_1).f0).length c1001_0, .slice A1001_1 ((rd_T98 l0 x5_1).f1).length c1001_1], .int .i64 x1_1] rfl ag_ ?_; (with_reducible refine (laws_szSeries.calls k1 _ _ ((rd_T98 l0 x5_1).f0) _ _ ((rd_T98 l0 x5_1).f1) x1_1 t1002 _ ?side1 ?side2 ?side3 ?side4 A6.out).mono ?_); (case side1 => exact cc_ (Kd.C_below HR1001_0.out HB.out)); (case side2 => exact HC1001_0.out); (case side3 => exact cc_ (Kd.C_below HR1001_1.out HB.out)); (case side4 => exact HC1001_1.out); rintro e w8 ⟨rfl, hb⟩; refine ⟨_, rfl, ?_⟩; replace HB := am_ (below_step bl_ hb); (try clear hb); (try clear hb2); (try clear hk); (try clear hi)))
       go_ret
       exact ⟨rf_, bl_⟩
      ·rw [if_neg c7] at H
       have c7b0 : decide (t1002 < 0) = false := decide_eq_false c7
       clear c7
       have H' := am_ H
       clear H
       have p1001 : 0 ≤ (x5_1 : Int) := od_
       have q1001 : x5_1 < (l0.length : Int) := od_
       obtain ⟨ad1001, A1001_0, c1001_0, A1001_1, c1001_1, e1001, hx1001_0, hx1001_1, hl1001_0, hi1001_0, hl1001_1, hi1001_1⟩ := at_T98 HR0.out x5_1 p1001 q1001
       cases e1001
       replace hx1001_0 := kp_ HB hx1001_0
       replace hx1001_1 := kp_ HB hx1001_1
       have HR1001_0 := am_ hi1001_0
       have HC1001_0 := am_ hl1001_0
       clear hi1001_0 hl1001_0
       have HR1001_1 := am_ hi1001_1
       have HC1001_1 := am_ hl1001_1
       clear hi1001_1 hl1001_1
       replace p1001 := eq_true p1001
       replace q1001 := eq_true q1001
       go_wp2_with (first | ((with_reducible refine gate_callee (f := 58) rfl ?_); refine goesL_ (some 23) rfl rfl Try.func58 (by kernel_rfl) rfl #[.agg #[.slice A1001_0 ((rd_T98 l0 x5_1).f0).length c1001_0, .slice A1001_1 ((rd_T98 l0 x5_1).f1).length c1001_1], .int .i64 x1_1] rfl ag_ ?_; (with_reducible refine (laws_szSeries.calls k1 _ _ ((rd_T98 l0 x5_1).f0) _ _ ((rd_T98 l0 x5_1).f1) x1_1 t1002 _ ?side1 ?side2 ?side3 ?side4 A6.out).mono ?_); (case side1 => exact cc_ (Kd.C_below HR1001_0.out HB.out)); (case side2 => exact HC1001_0.out); (case side3 => exact cc_ (Kd.C_below HR1001_1.out HB.out)); (case side4 => exact HC1001_1.out); rintro e w9 ⟨rfl, hb⟩; refine ⟨_, rfl, ?_⟩; replace HB := am_ (below_step bl_ hb); (try clear hb); (try clear hb2); (try clear hk); (try clear hi)))
       go_roundg k1
       case measure => have := HK1.out; omega
       case rel => exact ⟨(t1002), (wrap64 (x5_1 + 1)), rs_, rs_, H', ⟨by have := HK1.out; omega⟩, ⟨bl_⟩⟩
     ·rw [if_neg c5] at H
      exact absurd H (by simp)
    ·rw [if_neg c4] at H
     have c4b0 : decide (x5_1 < (l0.length : Int)) = false := decide_eq_false c4
     clear c4
     obtain rfl := Option.some.inj H
     go_wp2
     go_ret
     exact ⟨rf_, bl_⟩

/-! ### spec_l3Time: function 46 -/
def spec_l3Time.f (a0 : Int) : Option (Bool) := if a0 ≥ 0 then (some (decide (a0 ≤ 1000000000000))) else (some false)
set_option maxHeartbeats 8000000 in
set_option maxRecDepth 100000 in
theorem spec_l3Time.calls (a0 : Int) (r : Bool) (w : World) (h : spec_l3Time.f a0 = some r) :
  Calls Try.prog 46 #[.int .i64 a0] w fun e w' => e = .returned (.bool r) ∧ Drawn0 w w' := by
 have H : (if a0 ≥ 0 then (some (decide (a0 ≤ 1000000000000))) else (some false)) = some r := h
 clear h
 by_cases c2 : a0 ≥ 0
 ·rw [if_pos c2] at H
  have c2b0 : decide (0 ≤ a0) = true := decide_eq_true c2
  clear c2
  obtain rfl := Option.some.inj H
  go_enter Try.func46, Try.ntmps46
  go_wp2
  go_ret
  exact ⟨by first | rfl | (simp; done) | (simp [*]; done), by repeat (first | exact Drawn0.refl _ | apply Drawn0.step)⟩
 ·rw [if_neg c2] at H
  have c2b0 : decide (0 ≤ a0) = false := decide_eq_false c2
  clear c2
  obtain rfl := Option.some.inj H
  go_enter Try.func46, Try.ntmps46
  go_wp2
  go_ret
  exact ⟨by first | rfl | (simp; done) | (simp [*]; done), by repeat (first | exact Drawn0.refl _ | apply Drawn0.step)⟩

/-! ### spec_l2Cmp: function 50 -/
mutual
def spec_l2Cmp.l0 : Nat → List (S108) → List (S108) → Int → Option (Int)
 | 0, _, _, _ => none
 | k + 1, x0, x1, x5 => if x5 < (x0.length : Int) then (spec_l2Cmp.j1 k x0 x1 x5 (decide (x5 < (x1.length : Int)))) else (spec_l2Cmp.j1 k x0 x1 x5 false)
def spec_l2Cmp.j1 : Nat → List (S108) → List (S108) → Int → Bool → Option (Int)
 | 0, _, _, _, _ => none
 | k + 1, x0, x1, x5, x17 => if x17 = true then (if 0 ≤ x5 then (if x5 < (x0.length : Int) then (if x5 < (x1.length : Int) then ((spec_l2CmpText.f k ((rd_T108 x0 x5).f0) ((rd_T108 x1 x5).f0)).bind fun t1004 => (if t1004 = 0 then ((spec_l2CmpText.f k ((rd_T108 x0 x5).f1) ((rd_T108 x1 x5).f1)).bind fun t1007 => (if t1007 = 0 then (spec_l2Cmp.l0 k x0 x1 (wrap64 (x5 + 1))) else (some t1007))) else (some t1004))) else (none)) else (none)) else (none)) else ((spec_l2CmpNum.f (x0.length : Int) (x1.length : Int)).bind fun t1001 => (some t1001))
end
def spec_l2Cmp.f (k : Nat) (l0 : List (S108)) (l1 : List (S108)) : Option (Int) := spec_l2Cmp.l0 k l0 l1 0
theorem spec_l2Cmp.mono_l : ∀ k, (∀ y0 y1 y2, LeO (spec_l2Cmp.l0 k y0 y1 y2) (spec_l2Cmp.l0 (k + 1) y0 y1 y2)) ∧ (∀ y0 y1 y2 y3, LeO (spec_l2Cmp.j1 k y0 y1 y2 y3) (spec_l2Cmp.j1 (k + 1) y0 y1 y2 y3))
 | 0 => ⟨fun _ _ _ r h => by simp [spec_l2Cmp.l0] at h, fun _ _ _ _ r h => by simp [spec_l2Cmp.j1] at h⟩
 | k + 1 => by
  obtain ⟨ih0, ih1⟩ := spec_l2Cmp.mono_l k
  refine ⟨?_, ?_⟩
  ·intro y0 y1 y2
   unfold spec_l2Cmp.l0
   repeat' first
   | with_reducible first | exact ih0 _ _ _ | exact ih1 _ _ _ _ | exact spec_l2CmpText.mono _ _ _ | exact LeO.refl _ | exact LeO.none _ | refine LeO.ite ?_ ?_ | refine LeO.bind ?_ (fun _ => ?_)
   | exact ih0 _ _ _
   | exact ih1 _ _ _ _
   | exact spec_l2CmpText.mono _ _ _
   | exact LeO.none _
   | refine LeO.ite ?_ ?_
   | refine LeO.bind ?_ (fun _ => ?_)
  ·intro y0 y1 y2 y3
   unfold spec_l2Cmp.j1
   repeat' first
   | with_reducible first | exact ih0 _ _ _ | exact ih1 _ _ _ _ | exact spec_l2CmpText.mono _ _ _ | exact LeO.refl _ | exact LeO.none _ | refine LeO.ite ?_ ?_ | refine LeO.bind ?_ (fun _ => ?_)
   | exact ih0 _ _ _
   | exact ih1 _ _ _ _
   | exact spec_l2CmpText.mono _ _ _
   | exact LeO.none _
   | refine LeO.ite ?_ ?_
   | refine LeO.bind ?_ (fun _ => ?_)
theorem spec_l2Cmp.mono : ∀ a0 a1 k, LeO (spec_l2Cmp.f k a0 a1) (spec_l2Cmp.f (k + 1) a0 a1) := by
 intro a0 a1 k
 obtain ⟨ih0, ih1⟩ := spec_l2Cmp.mono_l k
 unfold spec_l2Cmp.f
 repeat' first
   | with_reducible first | exact ih0 _ _ _ | exact ih1 _ _ _ _ | exact spec_l2CmpText.mono _ _ _ | exact LeO.refl _ | exact LeO.none _ | refine LeO.ite ?_ ?_ | refine LeO.bind ?_ (fun _ => ?_)
   | exact ih0 _ _ _
   | exact ih1 _ _ _ _
   | exact spec_l2CmpText.mono _ _ _
   | exact LeO.none _
   | refine LeO.ite ?_ ?_
   | refine LeO.bind ?_ (fun _ => ?_)
set_option maxHeartbeats 8000000 in
set_option maxRecDepth 100000 in
theorem spec_l2Cmp.calls (k : Nat) (A0 : Option Addr) (c0 : Nat) (l0 : List (S108)) (A1 : Option Addr) (c1 : Nat) (l1 : List (S108)) (r : Int) (w : World) (hr0 : Kd.C k108 w A0 l0.length l0) (hc0 : l0.length ≤ c0) (hr1 : Kd.C k108 w A1 l1.length l1) (hc1 : l1.length ≤ c1) (h : spec_l2Cmp.f k l0 l1 = some r) :
  Calls Try.prog 50 #[.slice A0 l0.length c0, .slice A1 l1.length c1] w fun e w' => e = .returned (.int .i64 r) ∧ Drawn0 w w' := by
 have HR0 := am_ hr0
 have HC0 := am_ hc0
 clear hr0 hc0
 have HR1 := am_ hr1
 have HC1 := am_ hc1
 clear hr1 hc1
 have H : (spec_l2Cmp.l0 k l0 l1 0) = some r := h
 clear h
 have H' := am_ H
 clear H
 go_enter Try.func50, Try.ntmps50
 go_wp2
 repeat (go_quiet (fail); try go_wp2)
 go_loopg [5] k (fun kq v5 w' => ∃ (x5_1 : Int), v5 = .int .i64 x5_1 ∧ Aside0 (spec_l2Cmp.l0 kq l0 l1 x5_1 = some r) ∧ Aside0 (kq ≤ k) ∧ Drawn0 w w')
 case atStart => exact ⟨(0), rs_, H', ⟨Nat.le_refl _⟩, by repeat (first | exact Drawn0.refl _ | apply Drawn0.step)⟩
 case round =>
  clear H'
  try clear c1
  try clear p2
  obtain ⟨x5_1, rfl, HA, HK1, ⟨m1, rfl⟩⟩ := hrel
  cases gk with
  | zero => exact absurd HA.out (by simp [spec_l2Cmp.l0])
  | succ k1 =>
   have H := HA.out
   clear HA
   simp only [spec_l2Cmp.l0] at H
   have HC3 := am_ H
   clear H
   go_upto_region 2 with (fail)
   repeat (go_quiet (fail); go_upto_region 2 with (fail))
   go_cut [17] (fun v17 wc => ∃ (kq : Nat) (x17_2 : Bool), v17 = .bool x17_2 ∧ Aside0 (spec_l2Cmp.j1 kq l0 l1 x5_1 x17_2 = some r) ∧ Aside0 (kq ≤ k1) ∧ Drawn0 w wc)
   case first =>
    have H := HC3.out
    clear HC3
    by_cases c4 : x5_1 < (l0.length : Int)
    ·rw [if_pos c4] at H
     have c4b0 : decide (x5_1 < (l0.length : Int)) = true := decide_eq_true c4
     clear c4
     (first | rw [c4b0] | (simp only [i64_w, i32_w]; rw [c4b0]) | skip)
     have H' := am_ H
     clear H
     go_wp2
     repeat (go_quiet (fail); try go_wp2)
     go_meet
     case rel => exact ⟨_, (decide (x5_1 < (l1.length : Int))), rs_, H', ⟨by have := HK1.out; first | omega | exact Nat.le_refl _⟩, by repeat (first | exact Drawn0.refl _ | apply Drawn0.step)⟩
    ·rw [if_neg c4] at H
     have c4b0 : decide (x5_1 < (l0.length : Int)) = false := decide_eq_false c4
     clear c4
     (first | rw [c4b0] | (simp only [i64_w, i32_w]; rw [c4b0]) | skip)
     have H' := am_ H
     clear H
     go_wp2
     repeat (go_quiet (fail); try go_wp2)
     go_meet
     case rel => exact ⟨_, (false), rs_, H', ⟨by have := HK1.out; first | omega | exact Nat.le_refl _⟩, by repeat (first | exact Drawn0.refl _ | apply Drawn0.step)⟩
   case rest =>
    clear HC3
    try clear c1
    try clear p2
    try clear c4
    try clear c4b0
    try clear p2
    obtain ⟨kq, x17_2, rfl, HA, HJ2, ⟨mc2, rfl⟩⟩ := hcut
    cases kq with
    | zero => exact absurd HA.out (by simp [spec_l2Cmp.j1])
    | succ kj2 =>
     have H := HA.out
     clear HA
     simp only [spec_l2Cmp.j1] at H
     by_cases c5 : x17_2 = true
     ·subst c5
      have H1 : (if 0 ≤ x5_1 then (if x5_1 < (l0.length : Int) then (if x5_1 < (l1.length : Int) then ((spec_l2CmpText.f kj2 ((rd_T108 l0 x5_1).f0) ((rd_T108 l1 x5_1).f0)).bind fun t1004 => (if t1004 = 0 then ((spec_l2CmpText.f kj2 ((rd_T108 l0 x5_1).f1) ((rd_T108 l1 x5_1).f1)).bind fun t1007 => (if t1007 = 0 then (spec_l2Cmp.l0 kj2 l0 l1 (wrap64 (x5_1 + 1))) else (some t1007))) else (some t1004))) else (none)) else (none)) else (none)) = some r := by rw [if_pos rfl] at H; exact H
      clear H
      have H := H1
      clear H1
      by_cases c6 : 0 ≤ x5_1
      ·rw [if_pos c6] at H
       have c6b0 : decide (0 ≤ x5_1) = true := decide_eq_true c6
       clear c6
       by_cases c7 : x5_1 < (l0.length : Int)
       ·rw [if_pos c7] at H
        have c7b0 : decide (x5_1 < (l0.length : Int)) = true := decide_eq_true c7
        clear c7
        by_cases c8 : x5_1 < (l1.length : Int)
        ·rw [if_pos c8] at H
         have c8b0 : decide (x5_1 < (l1.length : Int)) = true := decide_eq_true c8
         clear c8
         replace H := Option.bind_eq_some_iff.mp H
         obtain ⟨t1004, A90, H⟩ := H
         replace H : (if t1004 = 0 then ((spec_l2CmpText.f kj2 ((rd_T108 l0 x5_1).f1) ((rd_T108 l1 x5_1).f1)).bind fun t1007 => (if t1007 = 0 then (spec_l2Cmp.l0 kj2 l0 l1 (wrap64 (x5_1 + 1))) else (some t1007))) else (some t1004)) = some r := H
         have A9 := am_ A90
         clear A90
         by_cases c10 : t1004 = 0
         ·rw [if_pos c10] at H
          have c10b0 : (t1004 == 0) = true := beq_iff_eq.mpr c10
          have c10b1 : (t1004 != 0) = false := bne_eq_false_iff_eq.mpr c10
          clear c10
          replace H := Option.bind_eq_some_iff.mp H
          obtain ⟨t1007, A110, H⟩ := H
          replace H : (if t1007 = 0 then (spec_l2Cmp.l0 kj2 l0 l1 (wrap64 (x5_1 + 1))) else (some t1007)) = some r := H
          have A11 := am_ A110
          clear A110
          by_cases c12 : t1007 = 0
          ·rw [if_pos c12] at H
           have c12b0 : (t1007 == 0) = true := beq_iff_eq.mpr c12
           have c12b1 : (t1007 != 0) = false := bne_eq_false_iff_eq.mpr c12
           clear c12
           have H' := am_ H
           clear H
           have p1002 : 0 ≤ (x5_1 : Int) := od_
           have q1002 : x5_1 < (l0.length : Int) := od_
           obtain ⟨ad1002, e1002, hx1002_0, hx1002_1⟩ := at_T108 HR0.out x5_1 p1002 q1002
           cases e1002
           replace p1002 := eq_true p1002
           replace q1002 := eq_true q1002
           have p1003 : 0 ≤ (x5_1 : Int) := od_
           have q1003 : x5_1 < (l1.length : Int) := od_
           obtain ⟨ad1003, e1003, hx1003_0, hx1003_1⟩ := at_T108 HR1.out x5_1 p1003 q1003
           cases e1003
           replace p1003 := eq_true p1003
           replace q1003 := eq_true q1003
           go_wp2_with (first | (go_at_call 94; (with_reducible refine (spec_l2CmpText.calls kj2 ((rd_T108 l0 x5_1).f0) ((rd_T108 l1 x5_1).f0) t1004 _ A9.out).mono ?_); rintro e w' ⟨rfl, ⟨nd, rfl⟩⟩; (try exact dd_); have p1005 : 0 ≤ (x5_1 : Int) := od_; have q1005 : x5_1 < (l0.length : Int) := od_; obtain ⟨ad1005, e1005, hx1005_0, hx1005_1⟩ := at_T108 HR0.out x5_1 p1005 q1005; obtain rfl : ad1002 = ad1005 := (by injection e1005); replace p1005 := eq_true p1005; replace q1005 := eq_true q1005; have p1006 : 0 ≤ (x5_1 : Int) := od_; have q1006 : x5_1 < (l1.length : Int) := od_; obtain ⟨ad1006, e1006, hx1006_0, hx1006_1⟩ := at_T108 HR1.out x5_1 p1006 q1006; obtain rfl : ad1003 = ad1006 := (by injection e1006); replace p1006 := eq_true p1006; replace q1006 := eq_true q1006) | (go_at_call 94; (with_reducible refine (spec_l2CmpText.calls kj2 ((rd_T108 l0 x5_1).f1) ((rd_T108 l1 x5_1).f1) t1007 _ A11.out).mono ?_); rintro e w' ⟨rfl, ⟨nd, rfl⟩⟩; (try exact dd_)))
           repeat (go_quiet (first | (go_at_call 94; (with_reducible refine (spec_l2CmpText.calls kj2 ((rd_T108 l0 x5_1).f0) ((rd_T108 l1 x5_1).f0) t1004 _ A9.out).mono ?_); rintro e w' ⟨rfl, ⟨nd, rfl⟩⟩; (try exact dd_); have p1005 : 0 ≤ (x5_1 : Int) := od_; have q1005 : x5_1 < (l0.length : Int) := od_; obtain ⟨ad1005, e1005, hx1005_0, hx1005_1⟩ := at_T108 HR0.out x5_1 p1005 q1005; obtain rfl : ad1002 = ad1005 := (by injection e1005); replace p1005 := eq_true p1005; replace q1005 := eq_true q1005; have p1006 : 0 ≤ (x5_1 : Int) := od_; have q1006 : x5_1 < (l1.length : Int) := od_; obtain ⟨ad1006, e1006, hx1006_0, hx1006_1⟩ := at_T108 HR1.out x5_1 p1006 q1006; obtain rfl : ad1003 = ad1006 := (by injection e1006); replace p1006 := eq_true p1006; replace q1006 := eq_true q1006) | (go_at_call 94; (with_reducible refine (spec_l2CmpText.calls kj2 ((rd_T108 l0 x5_1).f1) ((rd_T108 l1 x5_1).f1) t1007 _ A11.out).mono ?_); rintro e w' ⟨rfl, ⟨nd, rfl⟩⟩; (try exact dd_))); try go_wp2)
           go_roundg kj2
           case measure => have := HK1.out; have := HJ2.out; omega
           case rel => exact ⟨(wrap64 (x5_1 + 1)), rs_, H', ⟨by have := HK1.out; have := HJ2.out; omega⟩, by repeat (first | exact Drawn0.refl _ | apply Drawn0.step)⟩
          ·rw [if_neg c12] at H
           have c12b0 : (t1007 == 0) = false := beq_eq_false_iff_ne.mpr c12
           have c12b1 : (t1007 != 0) = true := bne_iff_ne.mpr c12
           obtain rfl := Option.some.inj H
           have p1002 : 0 ≤ (x5_1 : Int) := od_
           have q1002 : x5_1 < (l0.length : Int) := od_
           obtain ⟨ad1002, e1002, hx1002_0, hx1002_1⟩ := at_T108 HR0.out x5_1 p1002 q1002
           cases e1002
           replace p1002 := eq_true p1002
           replace q1002 := eq_true q1002
           have p1003 : 0 ≤ (x5_1 : Int) := od_
           have q1003 : x5_1 < (l1.length : Int) := od_
           obtain ⟨ad1003, e1003, hx1003_0, hx1003_1⟩ := at_T108 HR1.out x5_1 p1003 q1003
           cases e1003
           replace p1003 := eq_true p1003
           replace q1003 := eq_true q1003
           go_wp2_with (first | (go_at_call 94; (with_reducible refine (spec_l2CmpText.calls kj2 ((rd_T108 l0 x5_1).f0) ((rd_T108 l1 x5_1).f0) t1004 _ A9.out).mono ?_); rintro e w' ⟨rfl, ⟨nd, rfl⟩⟩; (try exact dd_); have p1005 : 0 ≤ (x5_1 : Int) := od_; have q1005 : x5_1 < (l0.length : Int) := od_; obtain ⟨ad1005, e1005, hx1005_0, hx1005_1⟩ := at_T108 HR0.out x5_1 p1005 q1005; obtain rfl : ad1002 = ad1005 := (by injection e1005); replace p1005 := eq_true p1005; replace q1005 := eq_true q1005; have p1006 : 0 ≤ (x5_1 : Int) := od_; have q1006 : x5_1 < (l1.length : Int) := od_; obtain ⟨ad1006, e1006, hx1006_0, hx1006_1⟩ := at_T108 HR1.out x5_1 p1006 q1006; obtain rfl : ad1003 = ad1006 := (by injection e1006); replace p1006 := eq_true p1006; replace q1006 := eq_true q1006) | (go_at_call 94; (with_reducible refine (spec_l2CmpText.calls kj2 ((rd_T108 l0 x5_1).f1) ((rd_T108 l1 x5_1).f1) t1007 _ A11.out).mono ?_); rintro e w' ⟨rfl, ⟨nd, rfl⟩⟩; (try exact dd_)))
           repeat (go_quiet (first | (go_at_call 94; (with_reducible refine (spec_l2CmpText.calls kj2 ((rd_T108 l0 x5_1).f0) ((rd_T108 l1 x5_1).f0) t1004 _ A9.out).mono ?_); rintro e w' ⟨rfl, ⟨nd, rfl⟩⟩; (try exact dd_); have p1005 : 0 ≤ (x5_1 : Int) := od_; have q1005 : x5_1 < (l0.length : Int) := od_; obtain ⟨ad1005, e1005, hx1005_0, hx1005_1⟩ := at_T108 HR0.out x5_1 p1005 q1005; obtain rfl : ad1002 = ad1005 := (by injection e1005); replace p1005 := eq_true p1005; replace q1005 := eq_true q1005; have p1006 : 0 ≤ (x5_1 : Int) := od_; have q1006 : x5_1 < (l1.length : Int) := od_; obtain ⟨ad1006, e1006, hx1006_0, hx1006_1⟩ := at_T108 HR1.out x5_1 p1006 q1006; obtain rfl : ad1003 = ad1006 := (by injection e1006); replace p1006 := eq_true p1006; replace q1006 := eq_true q1006) | (go_at_call 94; (with_reducible refine (spec_l2CmpText.calls kj2 ((rd_T108 l0 x5_1).f1) ((rd_T108 l1 x5_1).f1) t1007 _ A11.out).mono ?_); rintro e w' ⟨rfl, ⟨nd, rfl⟩⟩; (try exact dd_))); try go_wp2)
           go_ret
           exact ⟨by first | rfl | (simp; done) | (simp [*]; done), by repeat (first | exact Drawn0.refl _ | apply Drawn0.step)⟩
         ·rw [if_neg c10] at H
          have c10b0 : (t1004 == 0) = false := beq_eq_false_iff_ne.mpr c10
          have c10b1 : (t1004 != 0) = true := bne_iff_ne.mpr c10
          obtain rfl := Option.some.inj H
          have p1002 : 0 ≤ (x5_1 : Int) := od_
          have q1002 : x5_1 < (l0.length : Int) := od_
          obtain ⟨ad1002, e1002, hx1002_0, hx1002_1⟩ := at_T108 HR0.out x5_1 p1002 q1002
          cases e1002
          replace p1002 := eq_true p1002
          replace q1002 := eq_true q1002
          have p1003 : 0 ≤ (x5_1 : Int) := od_
          have q1003 : x5_1 < (l1.length : Int) := od_
          obtain ⟨ad1003, e1003, hx1003_0, hx1003_1⟩ := at_T108 HR1.out x5_1 p1003 q1003
          cases e1003
          replace p1003 := eq_true p1003
          replace q1003 := eq_true q1003
          go_wp2_with (first | (go_at_call 94; (with_reducible refine (spec_l2CmpText.calls kj2 ((rd_T108 l0 x5_1).f0) ((rd_T108 l1 x5_1).f0) t1004 _ A9.out).mono ?_); rintro e w' ⟨rfl, ⟨nd, rfl⟩⟩; (try exact dd_)))
          repeat (go_quiet (first | (go_at_call 94; (with_reducible refine (spec_l2CmpText.calls kj2 ((rd_T108 l0 x5_1).f0) ((rd_T108 l1 x5_1).f0) t1004 _ A9.out).mono ?_); rintro e w' ⟨rfl, ⟨nd, rfl⟩⟩; (try exact dd_))); try go_wp2)
          go_ret
          exact ⟨by first | rfl | (simp; done) | (simp [*]; done), by repeat (first | exact Drawn0.refl _ | apply Drawn0.step)⟩
        ·rw [if_neg c8] at H
         exact absurd H (by simp)
       ·rw [if_neg c7] at H
        exact absurd H (by simp)
      ·rw [if_neg c6] at H
       exact absurd H (by simp)
     ·replace c5 := Bool.eq_false_iff.mpr c5
      subst c5
      have H1 : ((spec_l2CmpNum.f (l0.length : Int) (l1.length : Int)).bind fun t1001 => (some t1001)) = some r := by rw [if_neg (show ¬ (false = true) by decide)] at H; exact H
      clear H
      have H := H1
      clear H1
      replace H := Option.bind_eq_some_iff.mp H
      obtain ⟨t1001, A130, H⟩ := H
      replace H : (some t1001) = some r := H
      have A13 := am_ A130
      clear A130
      obtain rfl := Option.some.inj H
      go_wp2_with (first | (go_at_call 96; (with_reducible refine (spec_l2CmpNum.calls (l0.length : Int) (l1.length : Int) t1001 _ A13.out).mono ?_); rintro e w' ⟨rfl, ⟨nd, rfl⟩⟩; (try exact dd_)))
      repeat (go_quiet (first | (go_at_call 96; (with_reducible refine (spec_l2CmpNum.calls (l0.length : Int) (l1.length : Int) t1001 _ A13.out).mono ?_); rintro e w' ⟨rfl, ⟨nd, rfl⟩⟩; (try exact dd_))); try go_wp2)
      go_ret
      exact ⟨by first | rfl | (simp; done) | (simp [*]; done), by repeat (first | exact Drawn0.refl _ | apply Drawn0.step)⟩

/-! ### spec_l7Named: function 90 -/
def spec_l7Named.f (k : Nat) (l0 : List (S108)) : Option (Bool) := (spec_GoodLabels.f k l0).bind fun t1001 => (if t1001 = true then ((spec_l2Of.f k l0 (⟨#[95, 110, 97, 109, 101]⟩ : ByteArray)).bind fun t1002 => (some (t1002.toList != ([] : List UInt8)))) else (some false))
theorem spec_l7Named.mono : ∀ a0 k, LeO (spec_l7Named.f k a0) (spec_l7Named.f (k + 1) a0) := by
 intro a0 k
 unfold spec_l7Named.f
 repeat' first
   | with_reducible first | exact spec_GoodLabels.mono _ _ | exact spec_l2Of.mono _ _ _ | exact LeO.refl _ | exact LeO.none _ | refine LeO.ite ?_ ?_ | refine LeO.bind ?_ (fun _ => ?_)
   | exact spec_GoodLabels.mono _ _
   | exact spec_l2Of.mono _ _ _
   | exact LeO.none _
   | refine LeO.ite ?_ ?_
   | refine LeO.bind ?_ (fun _ => ?_)
set_option maxHeartbeats 8000000 in
set_option maxRecDepth 100000 in
theorem spec_l7Named.calls (k : Nat) (A0 : Option Addr) (c0 : Nat) (l0 : List (S108)) (r : Bool) (w : World) (hr0 : Kd.C k108 w A0 l0.length l0) (hc0 : l0.length ≤ c0) (h : spec_l7Named.f k l0 = some r) :
  Calls Try.prog 90 #[.slice A0 l0.length c0] w fun e w' => e = .returned (.bool r) ∧ Below w.heap.size w w' := by
 have HR0 := am_ hr0
 have HC0 := am_ hc0
 clear hr0 hc0
 have HB := am_ (Below.refl w.heap.size w)
 have H : ((spec_GoodLabels.f k l0).bind fun t1001 => (if t1001 = true then ((spec_l2Of.f k l0 (⟨#[95, 110, 97, 109, 101]⟩ : ByteArray)).bind fun t1002 => (some (t1002.toList != ([] : List UInt8)))) else (some false))) = some r := h
 clear h
 replace H := Option.bind_eq_some_iff.mp H
 obtain ⟨t1001, A20, H⟩ := H
 replace H : (if t1001 = true then ((spec_l2Of.f k l0 (⟨#[95, 110, 97, 109, 101]⟩ : ByteArray)).bind fun t1002 => (some (t1002.toList != ([] : List UInt8)))) else (some false)) = some r := H
 have A2 := am_ A20
 clear A20
 by_cases c3 : t1001 = true
 ·subst c3
  have H1 : ((spec_l2Of.f k l0 (⟨#[95, 110, 97, 109, 101]⟩ : ByteArray)).bind fun t1002 => (some (t1002.toList != ([] : List UInt8)))) = some r := by rw [if_pos rfl] at H; exact H
  clear H
  have H := H1
  clear H1
  replace H := Option.bind_eq_some_iff.mp H
  obtain ⟨t1002, A40, H⟩ := H
  replace H : (some (t1002.toList != ([] : List UInt8))) = some r := H
  have A4 := am_ A40
  clear A40
  obtain rfl := Option.some.inj H
  go_enter Try.func90, Try.ntmps90
  go_wp2_with (first | ((with_reducible refine gate_callee (f := 48) rfl ?_); refine goesL_ (some 4) rfl rfl Try.func48 (by kernel_rfl) rfl #[.slice A0 l0.length c0] rfl ag_ ?_; (with_reducible refine (spec_GoodLabels.calls k _ _ l0 true _ ?side1 ?side2 A2.out).mono ?_); (case side1 => repeat (first | exact HR0.out | (with_reducible refine Kd.C_alloc ?_ _) | (with_reducible refine Kd.C_drewN ?_ _) | (with_reducible refine Kd.C_drew ?_))); (case side2 => exact HC0.out); rintro e w5 ⟨rfl, hb⟩; refine ⟨_, rfl, ?_⟩; replace HB := am_ (below_step bl_ hb); (try clear hb); (try clear hb2); (try clear hk); (try clear hi)) | (go_at_call 77; (with_reducible refine (spec_l2Of.calls k _ _ l0 (⟨#[95, 110, 97, 109, 101]⟩ : ByteArray) t1002 _ ?side1 ?side2 A4.out).mono ?_); (case side1 => exact cc_ (Kd.C_below HR0.out HB.out)); (case side2 => exact HC0.out); rintro e w6 ⟨rfl, hb⟩; replace HB := am_ (below_step bl_ hb); (try clear hb); (try clear hb2); (try clear hk); (try clear hi)))
  go_ret
  exact ⟨rf_, bl_⟩
 ·replace c3 := Bool.eq_false_iff.mpr c3
  subst c3
  have H1 : (some false) = some r := by rw [if_neg (show ¬ (false = true) by decide)] at H; exact H
  clear H
  have H := H1
  clear H1
  obtain rfl := Option.some.inj H
  go_enter Try.func90, Try.ntmps90
  go_wp2_with (first | ((with_reducible refine gate_callee (f := 48) rfl ?_); refine goesL_ (some 4) rfl rfl Try.func48 (by kernel_rfl) rfl #[.slice A0 l0.length c0] rfl ag_ ?_; (with_reducible refine (spec_GoodLabels.calls k _ _ l0 false _ ?side1 ?side2 A2.out).mono ?_); (case side1 => repeat (first | exact HR0.out | (with_reducible refine Kd.C_alloc ?_ _) | (with_reducible refine Kd.C_drewN ?_ _) | (with_reducible refine Kd.C_drew ?_))); (case side2 => exact HC0.out); rintro e w7 ⟨rfl, hb⟩; refine ⟨_, rfl, ?_⟩; replace HB := am_ (below_step bl_ hb); (try clear hb); (try clear hb2); (try clear hk); (try clear hi)))
  go_ret
  exact ⟨rf_, bl_⟩

/-! ### spec_GoodSamples: function 91 -/
def spec_GoodSamples.l0 : Nat → List (S85) → List (S85) → Int → Int → Option (Bool)
 | 0, _, _, _, _ => none
 | k + 1, x0, x5, x6, x7 => if x7 < x6 then (if 0 ≤ x7 then (if x7 < (x5.length : Int) then ((spec_l3Time.f ((rd_T85 x5 x7).f0)).bind fun t1003 => (if t1003 = true then (if x7 > 0 then (if 0 ≤ (wrap64 (x7 - 1)) then (if (wrap64 (x7 - 1)) < (x0.length : Int) then (if ((rd_T85 x0 (wrap64 (x7 - 1))).f0) ≥ ((rd_T85 x5 x7).f0) then (some false) else (spec_GoodSamples.l0 k x0 x5 x6 (wrap64 (x7 + 1)))) else (none)) else (none)) else (spec_GoodSamples.l0 k x0 x5 x6 (wrap64 (x7 + 1)))) else (some false))) else (none)) else (none)) else (some (decide ((x0.length : Int) ≤ 2000)))
def spec_GoodSamples.f (k : Nat) (l0 : List (S85)) : Option (Bool) := spec_GoodSamples.l0 k l0 l0 (l0.length : Int) 0
theorem spec_GoodSamples.mono_l : ∀ k, (∀ y0 y1 y2 y3, LeO (spec_GoodSamples.l0 k y0 y1 y2 y3) (spec_GoodSamples.l0 (k + 1) y0 y1 y2 y3))
 | 0 => fun _ _ _ _ r h => by simp [spec_GoodSamples.l0] at h
 | k + 1 => by
  have ih0 := spec_GoodSamples.mono_l k
  ·intro y0 y1 y2 y3
   unfold spec_GoodSamples.l0
   repeat' first
   | with_reducible first | exact ih0 _ _ _ _ | exact LeO.refl _ | exact LeO.none _ | refine LeO.ite ?_ ?_ | refine LeO.bind ?_ (fun _ => ?_)
   | exact ih0 _ _ _ _
   | exact LeO.none _
   | refine LeO.ite ?_ ?_
   | refine LeO.bind ?_ (fun _ => ?_)
theorem spec_GoodSamples.mono : ∀ a0 k, LeO (spec_GoodSamples.f k a0) (spec_GoodSamples.f (k + 1) a0) := by
 intro a0 k
 have ih0 := spec_GoodSamples.mono_l k
 unfold spec_GoodSamples.f
 repeat' first
   | with_reducible first | exact ih0 _ _ _ _ | exact LeO.refl _ | exact LeO.none _ | refine LeO.ite ?_ ?_ | refine LeO.bind ?_ (fun _ => ?_)
   | exact ih0 _ _ _ _
   | exact LeO.none _
   | refine LeO.ite ?_ ?_
   | refine LeO.bind ?_ (fun _ => ?_)
set_option maxHeartbeats 8000000 in
set_option maxRecDepth 100000 in
theorem spec_GoodSamples.calls (k : Nat) (A0 : Option Addr) (c0 : Nat) (l0 : List (S85)) (r : Bool) (w : World) (hr0 : Kd.C k85 w A0 l0.length l0) (hc0 : l0.length ≤ c0) (h : spec_GoodSamples.f k l0 = some r) :
  Calls Try.prog 91 #[.slice A0 l0.length c0] w fun e w' => e = .returned (.bool r) ∧ Below w.heap.size w w' := by
 have hu85 := Try.underlying85
 have HR0 := am_ hr0
 have HC0 := am_ hc0
 clear hr0 hc0
 have HB := am_ (Below.refl w.heap.size w)
 have H : (spec_GoodSamples.l0 k l0 l0 (l0.length : Int) 0) = some r := h
 clear h
 have H' := am_ H
 clear H
 go_enter Try.func91, Try.ntmps91
 go_wp2
 repeat (go_quiet (fail); try go_wp2)
 go_loopg [7] k (fun kq v7 w' => ∃ (x7_1 : Int), v7 = .int .i64 x7_1 ∧ Aside0 (spec_GoodSamples.l0 kq l0 l0 (l0.length : Int) x7_1 = some r) ∧ Aside0 (kq ≤ k) ∧ Aside0 (Below w.heap.size w w'))
 case atStart => exact ⟨(0), rs_, H', ⟨Nat.le_refl _⟩, ⟨bl_⟩⟩
 case round =>
  clear H'
  obtain ⟨x7_1, rfl, HA, HK1, HB⟩ := hrel
  cases gk with
  | zero => exact absurd HA.out (by simp [spec_GoodSamples.l0])
  | succ k1 =>
   have H := HA.out
   clear HA
   simp only [spec_GoodSamples.l0] at H
   by_cases c2 : x7_1 < (l0.length : Int)
   ·rw [if_pos c2] at H
    have c2b0 : decide (x7_1 < (l0.length : Int)) = true := decide_eq_true c2
    clear c2
    by_cases c3 : 0 ≤ x7_1
    ·rw [if_pos c3] at H
     have c3b0 : decide (0 ≤ x7_1) = true := decide_eq_true c3
     clear c3
     by_cases c4 : x7_1 < (l0.length : Int)
     ·rw [if_pos c4] at H
      have c4b0 : decide (x7_1 < (l0.length : Int)) = true := decide_eq_true c4
      clear c4
      replace H := Option.bind_eq_some_iff.mp H
      obtain ⟨t1003, A50, H⟩ := H
      replace H : (if t1003 = true then (if x7_1 > 0 then (if 0 ≤ (wrap64 (x7_1 - 1)) then (if (wrap64 (x7_1 - 1)) < (l0.length : Int) then (if ((rd_T85 l0 (wrap64 (x7_1 - 1))).f0) ≥ ((rd_T85 l0 x7_1).f0) then (some false) else (spec_GoodSamples.l0 k1 l0 l0 (l0.length : Int) (wrap64 (x7_1 + 1)))) else (none)) else (none)) else (spec_GoodSamples.l0 k1 l0 l0 (l0.length : Int) (wrap64 (x7_1 + 1)))) else (some false)) = some r := H
      have A5 := am_ A50
      clear A50
      by_cases c6 : t1003 = true
      ·subst c6
       have H1 : (if x7_1 > 0 then (if 0 ≤ (wrap64 (x7_1 - 1)) then (if (wrap64 (x7_1 - 1)) < (l0.length : Int) then (if ((rd_T85 l0 (wrap64 (x7_1 - 1))).f0) ≥ ((rd_T85 l0 x7_1).f0) then (some false) else (spec_GoodSamples.l0 k1 l0 l0 (l0.length : Int) (wrap64 (x7_1 + 1)))) else (none)) else (none)) else (spec_GoodSamples.l0 k1 l0 l0 (l0.length : Int) (wrap64 (x7_1 + 1)))) = some r := by rw [if_pos rfl] at H; exact H
       clear H
       have H := H1
       clear H1
       by_cases c7 : x7_1 > 0
       ·rw [if_pos c7] at H
        have c7b0 : decide (0 < x7_1) = true := decide_eq_true c7
        clear c7
        obtain ⟨ji8, hji8⟩ : ∃ j_ : Int, (wrap64 (x7_1 - 1)) = j_ := ⟨_, rfl⟩
        replace H : (if 0 ≤ (ji8) then (if (ji8) < (l0.length : Int) then (if ((rd_T85 l0 (ji8)).f0) ≥ ((rd_T85 l0 x7_1).f0) then (some false) else (spec_GoodSamples.l0 k1 l0 l0 (l0.length : Int) (wrap64 (x7_1 + 1)))) else (none)) else (none)) = some r := by first | (rw [hji8] at H; exact H) | (simp only [hji8] at H ⊢; exact H)
        (try rw [hji8] at A5)
        have hji8w : (IntKind.i64.wrap (x7_1 - 1)) = ji8 := (i64_w _).trans hji8
        by_cases c9 : 0 ≤ (ji8)
        ·rw [if_pos c9] at H
         have c9b0 : decide (0 ≤ (ji8)) = true := decide_eq_true c9
         clear c9
         by_cases c10 : (ji8) < (l0.length : Int)
         ·rw [if_pos c10] at H
          have c10b0 : decide ((ji8) < (l0.length : Int)) = true := decide_eq_true c10
          clear c10
          by_cases c11 : ((rd_T85 l0 (ji8)).f0) ≥ ((rd_T85 l0 x7_1).f0)
          ·rw [if_pos c11] at H
           have c11b0 : decide (((rd_T85 l0 x7_1).f0) ≤ ((rd_T85 l0 (ji8)).f0)) = true := decide_eq_true c11
           clear c11
           obtain rfl := Option.some.inj H
           have p1001 : 0 ≤ (x7_1 : Int) := od_
           have q1001 : x7_1 < (l0.length : Int) := od_
           obtain ⟨ad1001, e1001, hx1001_0, hx1001_1⟩ := at_T85 HR0.out x7_1 p1001 q1001
           cases e1001
           replace hx1001_0 := kp_ HB hx1001_0
           replace hx1001_1 := kp_ HB hx1001_1
           replace p1001 := eq_true p1001
           replace q1001 := eq_true q1001
           go_wp2_with (first | ((with_reducible refine gate_dst (N := 4) rfl ?_); refine bx_ 4 #[.int .i64 0, .int .i64 0] 85 ?_; intro gb1002 hg w12 hbox hb; have BK1002 := am_ (hbox); have GW1002 := am_ (gs_ hg : w.heap.size ≤ gb1002); replace HB := am_ (below_step bl_ hb); have GE1002 := GW1002; clear hb hbox hg; have hcz13_0 := bc2_0 BK1002; have hcz13_1 := bc2_1 BK1002; have hfz13_0 := bf_ BK1002 0; have hfz13_1 := bf_ BK1002 1) | (go_at_call 46; (with_reducible refine (spec_l3Time.calls ((rd_T85 l0 x7_1).f0) true _ A5.out).mono ?_); rintro e w' ⟨rfl, ⟨nd, rfl⟩⟩; (try exact dd_); have p1004 : 0 ≤ ((ji8) : Int) := od_; have q1004 : (ji8) < (l0.length : Int) := od_; obtain ⟨ad1004, e1004, hx1004_0, hx1004_1⟩ := at_T85 HR0.out (ji8) p1004 q1004; obtain rfl : ad1001 = ad1004 := (by injection e1004); have hn1004_0 : ad1001.block ≠ gb1002 := hb_ hx1004_0 GW1002; have hn1004_1 : ad1001.block ≠ gb1002 := hb_ hx1004_0 GW1002; replace hx1004_0 := kp_ HB hx1004_0; replace hx1004_1 := kp_ HB hx1004_1; replace hx1004_0 := cf_ gb1002 0 hn1004_0 (.int .i64 ((rd_T85 l0 x7_1).f0)) hx1004_0; replace hx1004_1 := cf_ gb1002 0 hn1004_0 (.int .i64 ((rd_T85 l0 x7_1).f0)) hx1004_1; replace hx1004_0 := cf_ gb1002 1 hn1004_1 (.int .i64 ((rd_T85 l0 x7_1).f1)) hx1004_0; replace hx1004_1 := cf_ gb1002 1 hn1004_1 (.int .i64 ((rd_T85 l0 x7_1).f1)) hx1004_1; (try have hy1004_0 := fun (n_ : Nat) => (show ((((w12.drewN n_).setCell ⟨gb1002, 0, none⟩ (.int .i64 ((rd_T85 l0 x7_1).f0))).setCell ⟨gb1002, 1, none⟩ (.int .i64 ((rd_T85 l0 x7_1).f1)))).cell? _ = some _ from hx1004_0)); (try have hy1004_1 := fun (n_ : Nat) => (show ((((w12.drewN n_).setCell ⟨gb1002, 0, none⟩ (.int .i64 ((rd_T85 l0 x7_1).f0))).setCell ⟨gb1002, 1, none⟩ (.int .i64 ((rd_T85 l0 x7_1).f1)))).cell? _ = some _ from hx1004_1)); clear hn1004_0; clear hn1004_1; replace p1004 := eq_true p1004; replace q1004 := eq_true q1004))
           repeat (go_quiet (first | ((with_reducible refine gate_dst (N := 4) rfl ?_); refine bx_ 4 #[.int .i64 0, .int .i64 0] 85 ?_; intro gb1002 hg w12 hbox hb; have BK1002 := am_ (hbox); have GW1002 := am_ (gs_ hg : w.heap.size ≤ gb1002); replace HB := am_ (below_step bl_ hb); have GE1002 := GW1002; clear hb hbox hg; have hcz13_0 := bc2_0 BK1002; have hcz13_1 := bc2_1 BK1002; have hfz13_0 := bf_ BK1002 0; have hfz13_1 := bf_ BK1002 1) | (go_at_call 46; (with_reducible refine (spec_l3Time.calls ((rd_T85 l0 x7_1).f0) true _ A5.out).mono ?_); rintro e w' ⟨rfl, ⟨nd, rfl⟩⟩; (try exact dd_); have p1004 : 0 ≤ ((ji8) : Int) := od_; have q1004 : (ji8) < (l0.length : Int) := od_; obtain ⟨ad1004, e1004, hx1004_0, hx1004_1⟩ := at_T85 HR0.out (ji8) p1004 q1004; obtain rfl : ad1001 = ad1004 := (by injection e1004); have hn1004_0 : ad1001.block ≠ gb1002 := hb_ hx1004_0 GW1002; have hn1004_1 : ad1001.block ≠ gb1002 := hb_ hx1004_0 GW1002; replace hx1004_0 := kp_ HB hx1004_0; replace hx1004_1 := kp_ HB hx1004_1; replace hx1004_0 := cf_ gb1002 0 hn1004_0 (.int .i64 ((rd_T85 l0 x7_1).f0)) hx1004_0; replace hx1004_1 := cf_ gb1002 0 hn1004_0 (.int .i64 ((rd_T85 l0 x7_1).f0)) hx1004_1; replace hx1004_0 := cf_ gb1002 1 hn1004_1 (.int .i64 ((rd_T85 l0 x7_1).f1)) hx1004_0; replace hx1004_1 := cf_ gb1002 1 hn1004_1 (.int .i64 ((rd_T85 l0 x7_1).f1)) hx1004_1; (try have hy1004_0 := fun (n_ : Nat) => (show ((((w12.drewN n_).setCell ⟨gb1002, 0, none⟩ (.int .i64 ((rd_T85 l0 x7_1).f0))).setCell ⟨gb1002, 1, none⟩ (.int .i64 ((rd_T85 l0 x7_1).f1)))).cell? _ = some _ from hx1004_0)); (try have hy1004_1 := fun (n_ : Nat) => (show ((((w12.drewN n_).setCell ⟨gb1002, 0, none⟩ (.int .i64 ((rd_T85 l0 x7_1).f0))).setCell ⟨gb1002, 1, none⟩ (.int .i64 ((rd_T85 l0 x7_1).f1)))).cell? _ = some _ from hx1004_1)); clear hn1004_0; clear hn1004_1; replace p1004 := eq_true p1004; replace q1004 := eq_true q1004)); try go_wp2)
           go_ret
           exact ⟨by first | rfl | (simp [errW_none, errW_some] <;> rfl) | (simp only [← hji8]; first | rfl | (simp [errW_none, errW_some] <;> rfl)) | (simp [*, errW_none, errW_some] <;> rfl) | (simp [*, Go.Proofs.Ytknlgignjbghkaa.Gt.nil_bne]; done), bg_⟩
          ·rw [if_neg c11] at H
           have c11b0 : decide (((rd_T85 l0 x7_1).f0) ≤ ((rd_T85 l0 (ji8)).f0)) = false := decide_eq_false c11
           clear c11
           have H' := am_ H
           clear H
           have p1001 : 0 ≤ (x7_1 : Int) := od_
           have q1001 : x7_1 < (l0.length : Int) := od_
           obtain ⟨ad1001, e1001, hx1001_0, hx1001_1⟩ := at_T85 HR0.out x7_1 p1001 q1001
           cases e1001
           replace hx1001_0 := kp_ HB hx1001_0
           replace hx1001_1 := kp_ HB hx1001_1
           replace p1001 := eq_true p1001
           replace q1001 := eq_true q1001
           go_wp2_with (first | ((with_reducible refine gate_dst (N := 4) rfl ?_); refine bx_ 4 #[.int .i64 0, .int .i64 0] 85 ?_; intro gb1002 hg w14 hbox hb; have BK1002 := am_ (hbox); have GW1002 := am_ (gs_ hg : w.heap.size ≤ gb1002); replace HB := am_ (below_step bl_ hb); have GE1002 := GW1002; clear hb hbox hg; have hcz15_0 := bc2_0 BK1002; have hcz15_1 := bc2_1 BK1002; have hfz15_0 := bf_ BK1002 0; have hfz15_1 := bf_ BK1002 1) | (go_at_call 46; (with_reducible refine (spec_l3Time.calls ((rd_T85 l0 x7_1).f0) true _ A5.out).mono ?_); rintro e w' ⟨rfl, ⟨nd, rfl⟩⟩; (try exact dd_); have p1004 : 0 ≤ ((ji8) : Int) := od_; have q1004 : (ji8) < (l0.length : Int) := od_; obtain ⟨ad1004, e1004, hx1004_0, hx1004_1⟩ := at_T85 HR0.out (ji8) p1004 q1004; obtain rfl : ad1001 = ad1004 := (by injection e1004); have hn1004_0 : ad1001.block ≠ gb1002 := hb_ hx1004_0 GW1002; have hn1004_1 : ad1001.block ≠ gb1002 := hb_ hx1004_0 GW1002; replace hx1004_0 := kp_ HB hx1004_0; replace hx1004_1 := kp_ HB hx1004_1; replace hx1004_0 := cf_ gb1002 0 hn1004_0 (.int .i64 ((rd_T85 l0 x7_1).f0)) hx1004_0; replace hx1004_1 := cf_ gb1002 0 hn1004_0 (.int .i64 ((rd_T85 l0 x7_1).f0)) hx1004_1; replace hx1004_0 := cf_ gb1002 1 hn1004_1 (.int .i64 ((rd_T85 l0 x7_1).f1)) hx1004_0; replace hx1004_1 := cf_ gb1002 1 hn1004_1 (.int .i64 ((rd_T85 l0 x7_1).f1)) hx1004_1; (try have hy1004_0 := fun (n_ : Nat) => (show ((((w14.drewN n_).setCell ⟨gb1002, 0, none⟩ (.int .i64 ((rd_T85 l0 x7_1).f0))).setCell ⟨gb1002, 1, none⟩ (.int .i64 ((rd_T85 l0 x7_1).f1)))).cell? _ = some _ from hx1004_0)); (try have hy1004_1 := fun (n_ : Nat) => (show ((((w14.drewN n_).setCell ⟨gb1002, 0, none⟩ (.int .i64 ((rd_T85 l0 x7_1).f0))).setCell ⟨gb1002, 1, none⟩ (.int .i64 ((rd_T85 l0 x7_1).f1)))).cell? _ = some _ from hx1004_1)); clear hn1004_0; clear hn1004_1; replace p1004 := eq_true p1004; replace q1004 := eq_true q1004))
           repeat (go_quiet (first | ((with_reducible refine gate_dst (N := 4) rfl ?_); refine bx_ 4 #[.int .i64 0, .int .i64 0] 85 ?_; intro gb1002 hg w14 hbox hb; have BK1002 := am_ (hbox); have GW1002 := am_ (gs_ hg : w.heap.size ≤ gb1002); replace HB := am_ (below_step bl_ hb); have GE1002 := GW1002; clear hb hbox hg; have hcz15_0 := bc2_0 BK1002; have hcz15_1 := bc2_1 BK1002; have hfz15_0 := bf_ BK1002 0; have hfz15_1 := bf_ BK1002 1) | (go_at_call 46; (with_reducible refine (spec_l3Time.calls ((rd_T85 l0 x7_1).f0) true _ A5.out).mono ?_); rintro e w' ⟨rfl, ⟨nd, rfl⟩⟩; (try exact dd_); have p1004 : 0 ≤ ((ji8) : Int) := od_; have q1004 : (ji8) < (l0.length : Int) := od_; obtain ⟨ad1004, e1004, hx1004_0, hx1004_1⟩ := at_T85 HR0.out (ji8) p1004 q1004; obtain rfl : ad1001 = ad1004 := (by injection e1004); have hn1004_0 : ad1001.block ≠ gb1002 := hb_ hx1004_0 GW1002; have hn1004_1 : ad1001.block ≠ gb1002 := hb_ hx1004_0 GW1002; replace hx1004_0 := kp_ HB hx1004_0; replace hx1004_1 := kp_ HB hx1004_1; replace hx1004_0 := cf_ gb1002 0 hn1004_0 (.int .i64 ((rd_T85 l0 x7_1).f0)) hx1004_0; replace hx1004_1 := cf_ gb1002 0 hn1004_0 (.int .i64 ((rd_T85 l0 x7_1).f0)) hx1004_1; replace hx1004_0 := cf_ gb1002 1 hn1004_1 (.int .i64 ((rd_T85 l0 x7_1).f1)) hx1004_0; replace hx1004_1 := cf_ gb1002 1 hn1004_1 (.int .i64 ((rd_T85 l0 x7_1).f1)) hx1004_1; (try have hy1004_0 := fun (n_ : Nat) => (show ((((w14.drewN n_).setCell ⟨gb1002, 0, none⟩ (.int .i64 ((rd_T85 l0 x7_1).f0))).setCell ⟨gb1002, 1, none⟩ (.int .i64 ((rd_T85 l0 x7_1).f1)))).cell? _ = some _ from hx1004_0)); (try have hy1004_1 := fun (n_ : Nat) => (show ((((w14.drewN n_).setCell ⟨gb1002, 0, none⟩ (.int .i64 ((rd_T85 l0 x7_1).f0))).setCell ⟨gb1002, 1, none⟩ (.int .i64 ((rd_T85 l0 x7_1).f1)))).cell? _ = some _ from hx1004_1)); clear hn1004_0; clear hn1004_1; replace p1004 := eq_true p1004; replace q1004 := eq_true q1004)); try go_wp2)
           go_roundg k1
           case measure => have := HK1.out; omega
           case rel => exact ⟨(wrap64 (x7_1 + 1)), rs_, H', ⟨by have := HK1.out; omega⟩, ⟨bg_⟩⟩
         ·rw [if_neg c10] at H
          exact absurd H (by simp)
        ·rw [if_neg c9] at H
         exact absurd H (by simp)
       ·rw [if_neg c7] at H
        have c7b0 : decide (0 < x7_1) = false := decide_eq_false c7
        clear c7
        have H' := am_ H
        clear H
        have p1001 : 0 ≤ (x7_1 : Int) := od_
        have q1001 : x7_1 < (l0.length : Int) := od_
        obtain ⟨ad1001, e1001, hx1001_0, hx1001_1⟩ := at_T85 HR0.out x7_1 p1001 q1001
        cases e1001
        replace hx1001_0 := kp_ HB hx1001_0
        replace hx1001_1 := kp_ HB hx1001_1
        replace p1001 := eq_true p1001
        replace q1001 := eq_true q1001
        go_wp2_with (first | ((with_reducible refine gate_dst (N := 4) rfl ?_); refine bx_ 4 #[.int .i64 0, .int .i64 0] 85 ?_; intro gb1002 hg w16 hbox hb; have BK1002 := am_ (hbox); have GW1002 := am_ (gs_ hg : w.heap.size ≤ gb1002); replace HB := am_ (below_step bl_ hb); have GE1002 := GW1002; clear hb hbox hg; have hcz17_0 := bc2_0 BK1002; have hcz17_1 := bc2_1 BK1002; have hfz17_0 := bf_ BK1002 0; have hfz17_1 := bf_ BK1002 1) | (go_at_call 46; (with_reducible refine (spec_l3Time.calls ((rd_T85 l0 x7_1).f0) true _ A5.out).mono ?_); rintro e w' ⟨rfl, ⟨nd, rfl⟩⟩; (try exact dd_)))
        repeat (go_quiet (first | ((with_reducible refine gate_dst (N := 4) rfl ?_); refine bx_ 4 #[.int .i64 0, .int .i64 0] 85 ?_; intro gb1002 hg w16 hbox hb; have BK1002 := am_ (hbox); have GW1002 := am_ (gs_ hg : w.heap.size ≤ gb1002); replace HB := am_ (below_step bl_ hb); have GE1002 := GW1002; clear hb hbox hg; have hcz17_0 := bc2_0 BK1002; have hcz17_1 := bc2_1 BK1002; have hfz17_0 := bf_ BK1002 0; have hfz17_1 := bf_ BK1002 1) | (go_at_call 46; (with_reducible refine (spec_l3Time.calls ((rd_T85 l0 x7_1).f0) true _ A5.out).mono ?_); rintro e w' ⟨rfl, ⟨nd, rfl⟩⟩; (try exact dd_))); try go_wp2)
        go_roundg k1
        case measure => have := HK1.out; omega
        case rel => exact ⟨(wrap64 (x7_1 + 1)), rs_, H', ⟨by have := HK1.out; omega⟩, ⟨bg_⟩⟩
      ·replace c6 := Bool.eq_false_iff.mpr c6
       subst c6
       have H1 : (some false) = some r := by rw [if_neg (show ¬ (false = true) by decide)] at H; exact H
       clear H
       have H := H1
       clear H1
       obtain rfl := Option.some.inj H
       have p1001 : 0 ≤ (x7_1 : Int) := od_
       have q1001 : x7_1 < (l0.length : Int) := od_
       obtain ⟨ad1001, e1001, hx1001_0, hx1001_1⟩ := at_T85 HR0.out x7_1 p1001 q1001
       cases e1001
       replace hx1001_0 := kp_ HB hx1001_0
       replace hx1001_1 := kp_ HB hx1001_1
       replace p1001 := eq_true p1001
       replace q1001 := eq_true q1001
       go_wp2_with (first | ((with_reducible refine gate_dst (N := 4) rfl ?_); refine bx_ 4 #[.int .i64 0, .int .i64 0] 85 ?_; intro gb1002 hg w18 hbox hb; have BK1002 := am_ (hbox); have GW1002 := am_ (gs_ hg : w.heap.size ≤ gb1002); replace HB := am_ (below_step bl_ hb); have GE1002 := GW1002; clear hb hbox hg; have hcz19_0 := bc2_0 BK1002; have hcz19_1 := bc2_1 BK1002; have hfz19_0 := bf_ BK1002 0; have hfz19_1 := bf_ BK1002 1) | (go_at_call 46; (with_reducible refine (spec_l3Time.calls ((rd_T85 l0 x7_1).f0) false _ A5.out).mono ?_); rintro e w' ⟨rfl, ⟨nd, rfl⟩⟩; (try exact dd_)))
       repeat (go_quiet (first | ((with_reducible refine gate_dst (N := 4) rfl ?_); refine bx_ 4 #[.int .i64 0, .int .i64 0] 85 ?_; intro gb1002 hg w18 hbox hb; have BK1002 := am_ (hbox); have GW1002 := am_ (gs_ hg : w.heap.size ≤ gb1002); replace HB := am_ (below_step bl_ hb); have GE1002 := GW1002; clear hb hbox hg; have hcz19_0 := bc2_0 BK1002; have hcz19_1 := bc2_1 BK1002; have hfz19_0 := bf_ BK1002 0; have hfz19_1 := bf_ BK1002 1) | (go_at_call 46; (with_reducible refine (spec_l3Time.calls ((rd_T85 l0 x7_1).f0) false _ A5.out).mono ?_); rintro e w' ⟨rfl, ⟨nd, rfl⟩⟩; (try exact dd_))); try go_wp2)
       go_ret
       exact ⟨rf_, bg_⟩
     ·rw [if_neg c4] at H
      exact absurd H (by simp)
    ·rw [if_neg c3] at H
     exact absurd H (by simp)
   ·rw [if_neg c2] at H
    have c2b0 : decide (x7_1 < (l0.length : Int)) = false := decide_eq_false c2
    clear c2
    obtain rfl := Option.some.inj H
    go_wp2
    repeat (go_quiet (fail); try go_wp2)
    go_ret
    exact ⟨rf_, bl_⟩

/-! ### spec_GoodSeries: function 47 -/
def spec_GoodSeries.l0 : Nat → List (S83) → List (S83) → Int → Int → Option (Bool)
 | 0, _, _, _, _ => none
 | k + 1, x0, x8, x9, x10 => if x10 < x9 then (if 0 ≤ x10 then (if x10 < (x8.length : Int) then ((spec_l7Named.f k ((rd_T83 x8 x10).f0)).bind fun t1003 => (if t1003 = true then ((spec_GoodSamples.f k ((rd_T83 x8 x10).f1)).bind fun t1004 => (if t1004 = true then (if (((rd_T83 x8 x10).f1).length : Int) = 0 then (some false) else (if x10 > 0 then (if 0 ≤ (wrap64 (x10 - 1)) then (if (wrap64 (x10 - 1)) < (x0.length : Int) then ((spec_l2Cmp.f k ((rd_T83 x0 (wrap64 (x10 - 1))).f0) ((rd_T83 x8 x10).f0)).bind fun t1006 => (if t1006 ≥ 0 then (some false) else (spec_GoodSeries.l0 k x0 x8 x9 (wrap64 (x10 + 1))))) else (none)) else (none)) else (spec_GoodSeries.l0 k x0 x8 x9 (wrap64 (x10 + 1))))) else (some false))) else (some false))) else (none)) else (none)) else (some true)
def spec_GoodSeries.f (k : Nat) (l0 : List (S83)) : Option (Bool) := if (l0.length : Int) > 200 then (some false) else (spec_GoodSeries.l0 k l0 l0 (l0.length : Int) 0)
theorem spec_GoodSeries.mono_l : ∀ k, (∀ y0 y1 y2 y3, LeO (spec_GoodSeries.l0 k y0 y1 y2 y3) (spec_GoodSeries.l0 (k + 1) y0 y1 y2 y3))
 | 0 => fun _ _ _ _ r h => by simp [spec_GoodSeries.l0] at h
 | k + 1 => by
  have ih0 := spec_GoodSeries.mono_l k
  ·intro y0 y1 y2 y3
   unfold spec_GoodSeries.l0
   repeat' first
   | with_reducible first | exact ih0 _ _ _ _ | exact spec_GoodSamples.mono _ _ | exact spec_l2Cmp.mono _ _ _ | exact spec_l7Named.mono _ _ | exact LeO.refl _ | exact LeO.none _ | refine LeO.ite ?_ ?_ | refine LeO.bind ?_ (fun _ => ?_)
   | exact ih0 _ _ _ _
   | exact spec_GoodSamples.mono _ _
   | exact spec_l2Cmp.mono _ _ _
   | exact spec_l7Named.mono _ _
   | exact LeO.none _
   | refine LeO.ite ?_ ?_
   | refine LeO.bind ?_ (fun _ => ?_)
theorem spec_GoodSeries.mono : ∀ a0 k, LeO (spec_GoodSeries.f k a0) (spec_GoodSeries.f (k + 1) a0) := by
 intro a0 k
 have ih0 := spec_GoodSeries.mono_l k
 unfold spec_GoodSeries.f
 repeat' first
   | with_reducible first | exact ih0 _ _ _ _ | exact spec_GoodSamples.mono _ _ | exact spec_l2Cmp.mono _ _ _ | exact spec_l7Named.mono _ _ | exact LeO.refl _ | exact LeO.none _ | refine LeO.ite ?_ ?_ | refine LeO.bind ?_ (fun _ => ?_)
   | exact ih0 _ _ _ _
   | exact spec_GoodSamples.mono _ _
   | exact spec_l2Cmp.mono _ _ _
   | exact spec_l7Named.mono _ _
   | exact LeO.none _
   | refine LeO.ite ?_ ?_
   | refine LeO.bind ?_ (fun _ => ?_)
def spec_GoodSeries.T6 : Bool × List (List Nat × List Nat) := (true, [([], []), ([0], [0]), ([1], [1]), ([2], [2]), ([3, 2], [3]), ([4], [4]), ([5, 4], [4, 5]), ([6, 4, 4], [4, 6]), ([7, 4], [4, 7]), ([4, 8], [4, 8]), ([9, 7], [9]), ([10], [10]), ([11, 10], [10, 11]), ([12, 10], [10, 12]), ([13, 10], [10, 13]), ([10, 14], [10, 14]), ([15, 10], [15]), ([16], [16]), ([17, 16], [16, 17]), ([18, 16, 16], [16, 18]), ([19], [19]), ([19], [19]), ([21, 19], [19, 21]), ([20, 22, 19], [19, 20, 22]), ([23, 19], [19, 23]), ([24, 19], [19, 24]), ([19], [19]), ([26, 19], [19, 26]), ([25, 27, 19, 19], [19, 25, 27]), ([28, 19], [19, 28]), ([19, 29, 16], [16, 19, 29]), ([16, 30], [16, 30])])
def spec_GoodSeries.B6 : List Nat := [0, 1, 3, 7, 15, 31, 63, 127, 255, 511, 1023, 2047, 4095, 8191, 16383, 32767, 65535, 131071, 262143, 524287, 1048575, 1048575, 3145727, 8388607, 16777215, 33554431, 1048575, 68157439, 268435455, 536870911, 1073741823, 2147483647]
theorem spec_GoodSeries.tab6 : rtab .any (opsOf Try.f47 6) = spec_GoodSeries.T6 := by kernel_rfl
theorem spec_GoodSeries.bits6 : waitsOk spec_GoodSeries.T6.2 spec_GoodSeries.B6 = true := by kernel_rfl
set_option maxHeartbeats 8000000 in
set_option maxRecDepth 100000 in
theorem spec_GoodSeries.calls (k : Nat) (A0 : Option Addr) (c0 : Nat) (l0 : List (S83)) (r : Bool) (w : World) (hr0 : Kd.C k83 w A0 l0.length l0) (hc0 : l0.length ≤ c0) (h : spec_GoodSeries.f k l0 = some r) :
  Calls Try.prog 47 #[.slice A0 l0.length c0] w fun e w' => e = .returned (.bool r) ∧ Below w.heap.size w w' := by
 have hu83 := Try.underlying83
 have HR0 := am_ hr0
 have HC0 := am_ hc0
 clear hr0 hc0
 have HB := am_ (Below.refl w.heap.size w)
 have H : (if (l0.length : Int) > 200 then (some false) else (spec_GoodSeries.l0 k l0 l0 (l0.length : Int) 0)) = some r := h
 clear h
 by_cases c2 : (l0.length : Int) > 200
 ·rw [if_pos c2] at H
  have c2b0 : decide (200 < (l0.length : Int)) = true := decide_eq_true c2
  have c2b1 : decide (200 < l0.length) = true := decide_eq_true (by omega)
  clear c2
  obtain rfl := Option.some.inj H
  go_enter Try.func47, Try.ntmps47
  go_wp2
  go_ret
  exact ⟨rf_, bl_⟩
 ·rw [if_neg c2] at H
  have c2b0 : decide (200 < (l0.length : Int)) = false := decide_eq_false c2
  have c2b1 : decide (200 < l0.length) = false := decide_eq_false (by omega)
  clear c2
  have H' := am_ H
  clear H
  go_enter Try.func47, Try.ntmps47
  go_wp2
  go_loopg [10] k (fun kq v10 w' => ∃ (x10_1 : Int), v10 = .int .i64 x10_1 ∧ Aside0 (spec_GoodSeries.l0 kq l0 l0 (l0.length : Int) x10_1 = some r) ∧ Aside0 (kq ≤ k) ∧ Aside0 (Below w.heap.size w w'))
  case atStart => exact ⟨(0), rs_, H', ⟨Nat.le_refl _⟩, ⟨bl_⟩⟩
  case round =>
   clear H'
   try clear c2
   try clear c2b0
   try clear c2b1
   try clear p2
   obtain ⟨x10_1, rfl, HA, HK1, HB⟩ := hrel
   cases gk with
   | zero => exact absurd HA.out (by simp [spec_GoodSeries.l0])
   | succ k1 =>
    have H := HA.out
    clear HA
    simp only [spec_GoodSeries.l0] at H
    by_cases c3 : x10_1 < (l0.length : Int)
    ·rw [if_pos c3] at H
     have c3b0 : decide (x10_1 < (l0.length : Int)) = true := decide_eq_true c3
     clear c3
     by_cases c4 : 0 ≤ x10_1
     ·rw [if_pos c4] at H
      have c4b0 : decide (0 ≤ x10_1) = true := decide_eq_true c4
      clear c4
      by_cases c5 : x10_1 < (l0.length : Int)
      ·rw [if_pos c5] at H
       have c5b0 : decide (x10_1 < (l0.length : Int)) = true := decide_eq_true c5
       clear c5
       replace H := Option.bind_eq_some_iff.mp H
       obtain ⟨t1003, A60, H⟩ := H
       replace H : (if t1003 = true then ((spec_GoodSamples.f k1 ((rd_T83 l0 x10_1).f1)).bind fun t1004 => (if t1004 = true then (if (((rd_T83 l0 x10_1).f1).length : Int) = 0 then (some false) else (if x10_1 > 0 then (if 0 ≤ (wrap64 (x10_1 - 1)) then (if (wrap64 (x10_1 - 1)) < (l0.length : Int) then ((spec_l2Cmp.f k1 ((rd_T83 l0 (wrap64 (x10_1 - 1))).f0) ((rd_T83 l0 x10_1).f0)).bind fun t1006 => (if t1006 ≥ 0 then (some false) else (spec_GoodSeries.l0 k1 l0 l0 (l0.length : Int) (wrap64 (x10_1 + 1))))) else (none)) else (none)) else (spec_GoodSeries.l0 k1 l0 l0 (l0.length : Int) (wrap64 (x10_1 + 1))))) else (some false))) else (some false)) = some r := H
       have A6 := am_ A60
       clear A60
       by_cases c7 : t1003 = true
       ·subst c7
        have H1 : ((spec_GoodSamples.f k1 ((rd_T83 l0 x10_1).f1)).bind fun t1004 => (if t1004 = true then (if (((rd_T83 l0 x10_1).f1).length : Int) = 0 then (some false) else (if x10_1 > 0 then (if 0 ≤ (wrap64 (x10_1 - 1)) then (if (wrap64 (x10_1 - 1)) < (l0.length : Int) then ((spec_l2Cmp.f k1 ((rd_T83 l0 (wrap64 (x10_1 - 1))).f0) ((rd_T83 l0 x10_1).f0)).bind fun t1006 => (if t1006 ≥ 0 then (some false) else (spec_GoodSeries.l0 k1 l0 l0 (l0.length : Int) (wrap64 (x10_1 + 1))))) else (none)) else (none)) else (spec_GoodSeries.l0 k1 l0 l0 (l0.length : Int) (wrap64 (x10_1 + 1))))) else (some false))) = some r := by rw [if_pos rfl] at H; exact H
        clear H
        have H := H1
        clear H1
        replace H := Option.bind_eq_some_iff.mp H
        obtain ⟨t1004, A80, H⟩ := H
        replace H : (if t1004 = true then (if (((rd_T83 l0 x10_1).f1).length : Int) = 0 then (some false) else (if x10_1 > 0 then (if 0 ≤ (wrap64 (x10_1 - 1)) then (if (wrap64 (x10_1 - 1)) < (l0.length : Int) then ((spec_l2Cmp.f k1 ((rd_T83 l0 (wrap64 (x10_1 - 1))).f0) ((rd_T83 l0 x10_1).f0)).bind fun t1006 => (if t1006 ≥ 0 then (some false) else (spec_GoodSeries.l0 k1 l0 l0 (l0.length : Int) (wrap64 (x10_1 + 1))))) else (none)) else (none)) else (spec_GoodSeries.l0 k1 l0 l0 (l0.length : Int) (wrap64 (x10_1 + 1))))) else (some false)) = some r := H
        have A8 := am_ A80
        clear A80
        by_cases c9 : t1004 = true
        ·subst c9
         have H1 : (if (((rd_T83 l0 x10_1).f1).length : Int) = 0 then (some false) else (if x10_1 > 0 then (if 0 ≤ (wrap64 (x10_1 - 1)) then (if (wrap64 (x10_1 - 1)) < (l0.length : Int) then ((spec_l2Cmp.f k1 ((rd_T83 l0 (wrap64 (x10_1 - 1))).f0) ((rd_T83 l0 x10_1).f0)).bind fun t1006 => (if t1006 ≥ 0 then (some false) else (spec_GoodSeries.l0 k1 l0 l0 (l0.length : Int) (wrap64 (x10_1 + 1))))) else (none)) else (none)) else (spec_GoodSeries.l0 k1 l0 l0 (l0.length : Int) (wrap64 (x10_1 + 1))))) = some r := by rw [if_pos rfl] at H; exact H
         clear H
         have H := H1
         clear H1
         by_cases c10 : (((rd_T83 l0 x10_1).f1).length : Int) = 0
         ·rw [if_pos c10] at H
          have c10b0 : ((((rd_T83 l0 x10_1).f1).length : Int) == 0) = true := beq_iff_eq.mpr c10
          have c10b1 : ((((rd_T83 l0 x10_1).f1).length : Int) != 0) = false := bne_eq_false_iff_eq.mpr c10
          clear c10
          obtain rfl := Option.some.inj H
          have p1001 : 0 ≤ (x10_1 : Int) := od_
          have q1001 : x10_1 < (l0.length : Int) := od_
          obtain ⟨ad1001, A1001_0, c1001_0, A1001_1, c1001_1, e1001, hx1001_0, hx1001_1, hl1001_0, hi1001_0, hl1001_1, hi1001_1⟩ := at_T83 HR0.out x10_1 p1001 q1001
          cases e1001
          replace hx1001_0 := kp_ HB hx1001_0
          replace hx1001_1 := kp_ HB hx1001_1
          have HR1001_0 := am_ hi1001_0
          have HC1001_0 := am_ hl1001_0
          clear hi1001_0 hl1001_0
          have HR1001_1 := am_ hi1001_1
          have HC1001_1 := am_ hl1001_1
          clear hi1001_1 hl1001_1
          replace p1001 := eq_true p1001
          replace q1001 := eq_true q1001
          try go_wp2_with (first | ((with_reducible refine gate_dst (N := 4) rfl ?_); (try (refine gate_guard (by rfl) ?_; dsimp only)); refine bx_ 4 #[.slice none 0 0, .slice none 0 0] 83 ?_; intro gb1002 hg w11 hbox hb; have BK1002 := am_ (hbox); have GW1002 := am_ (gs_ hg : w.heap.size ≤ gb1002); replace HB := am_ (below_step bl_ hb); have GE1002 := GW1002; clear hb hbox hg; have hcz12_0 := bc2_0 BK1002; have hcz12_1 := bc2_1 BK1002; have hfz12_0 := bf_ BK1002 0; have hfz12_1 := bf_ BK1002 1))
          have n0_ : Aside0 (((w11.setCell ⟨gb1002, 0, none⟩ (.slice A1001_0 ((rd_T83 l0 x10_1).f0).length c1001_0)).setCell ⟨gb1002, 1, none⟩ (.slice A1001_1 ((rd_T83 l0 x10_1).f1).length c1001_1)).heap[gb1002]? = some (.cells #[.slice A1001_0 ((rd_T83 l0 x10_1).f0).length c1001_0, .slice A1001_1 ((rd_T83 l0 x10_1).f1).length c1001_1] 83 (0, 0))) := ⟨by (with_reducible repeat (first | refine blk_drewN ?_ _ | refine blk_drew ?_ | refine blk_alloc ?_ _)); refine blk_put (cs := #[.slice A1001_0 ((rd_T83 l0 x10_1).f0).length c1001_0, .slice none 0 0]) ?_ 1 _ rfl; (with_reducible repeat (first | refine blk_drewN ?_ _ | refine blk_drew ?_ | refine blk_alloc ?_ _)); refine blk_put (cs := #[.slice none 0 0, .slice none 0 0]) ?_ 0 _ rfl; (with_reducible repeat (first | refine blk_drewN ?_ _ | refine blk_drew ?_ | refine blk_alloc ?_ _)); exact BK1002.out⟩
          have n1_ : Aside0 (Below w.heap.size w ((w11.setCell ⟨gb1002, 0, none⟩ (.slice A1001_0 ((rd_T83 l0 x10_1).f0).length c1001_0)).setCell ⟨gb1002, 1, none⟩ (.slice A1001_1 ((rd_T83 l0 x10_1).f1).length c1001_1))) := ⟨bg_⟩
          (try clear BK1002)
          (try clear HB)
          generalize ((w11.setCell ⟨gb1002, 0, none⟩ (.slice A1001_0 ((rd_T83 l0 x10_1).f0).length c1001_0)).setCell ⟨gb1002, 1, none⟩ (.slice A1001_1 ((rd_T83 l0 x10_1).f1).length c1001_1)) = w13 at n0_ n1_ ⊢
          have BK1002 := n0_
          have HB := n1_
          clear n0_ n1_
          have n0_ := am_ (blk_drew BK1002.out)
          have n1_ := am_ (below_drew1 HB.out)
          clear BK1002
          clear HB
          have BK1002 := n0_
          have HB := n1_
          clear n0_ n1_
          refine start_ (n := 32) (S := fun w' => w'.cell? ⟨gb1002, 0, none⟩ = some (.slice A1001_0 ((rd_T83 l0 x10_1).f0).length c1001_0) ∧ w'.cell? ⟨gb1002, 1, none⟩ = some (.slice A1001_1 ((rd_T83 l0 x10_1).f1).length c1001_1)) (ds := []) (bz 32 0) (by kernel_rfl) rfl rfl ⟨(blk_cell BK1002.out 0).trans rfl, (blk_cell BK1002.out 1).trans rfl⟩ (fun hHeld => ?_); refine with_tabW spec_GoodSeries.tab6 spec_GoodSeries.bits6 (fun HT_ HW_ => ?_)
          generalize w13.drew = w14 at BK1002 HB hHeld ⊢
          refine pz_ 0 15 1 ?_
          refine tz_ 1 16 3 ?_
          refine one_ (i := 2) (N := some 17) (bz 32 7) rfl rfl (one_of HT_.out (by kernel_rfl)) (by decide) (fun K hK => ?_)
          refine goes_ Try.func90 (by kernel_rfl) rfl #[.slice A1001_0 ((rd_T83 l0 x10_1).f0).length c1001_0] (by rfl) rfl rfl ag_ ?_
          with_reducible refine (spec_l7Named.calls k1 _ _ ((rd_T83 l0 x10_1).f0) true _ ?side1 ?side2 A6.out).mono ?_
          (case side1 => exact cc_ (Kd.C_below HR1001_0.out HB.out))
          (case side2 => exact HC1001_0.out)
          rintro e w15 ⟨rfl, hb⟩
          refine ⟨_, rfl, ?_⟩
          have n0_ := am_ (blk_below (g := gb1002) (vk_ BK1002) hb)
          have n1_ := am_ (below_step bg_ hb)
          clear BK1002
          clear HB
          have BK1002 := n0_
          have HB := n1_
          clear n0_ n1_
          (try clear hb)
          (try clear hb2)
          (try clear hk)
          (try clear hi)
          refine hK.out _ _ ⟨(blk_cell BK1002.out 0).trans rfl, (blk_cell BK1002.out 1).trans rfl⟩ (fun hHeld => ?_)
          clear hK K
          refine norm_ (a' := ?_) ?_ ?_
          rotate_left
          ·show Act.put _ (some 17) _ = _
           simp only [Act.put, List.setIfInBounds_toArray, List.set_cons_zero, List.set_cons_succ, i64_w, i32_w]
           rfl
          refine pz_ 3 18 15 ?_
          refine pz_ 4 19 31 ?_
          refine pz_ 5 20 63 ?_
          refine tz_ 6 21 127 ?_
          refine one_ (i := 7) (N := some 22) (bz 32 255) rfl rfl (one_of HT_.out (by kernel_rfl)) (by decide) (fun K hK => ?_)
          refine goes_ Try.func91 (by kernel_rfl) rfl #[.slice A1001_1 ((rd_T83 l0 x10_1).f1).length c1001_1] (by rfl) rfl rfl ag_ ?_
          with_reducible refine (spec_GoodSamples.calls k1 _ _ ((rd_T83 l0 x10_1).f1) true _ ?side1 ?side2 A8.out).mono ?_
          (case side1 => exact cc_ (Kd.C_below HR1001_1.out HB.out))
          (case side2 => exact HC1001_1.out)
          rintro e w16 ⟨rfl, hb⟩
          refine ⟨_, rfl, ?_⟩
          have n0_ := am_ (blk_below (g := gb1002) (vk_ BK1002) hb)
          have n1_ := am_ (below_step bg_ hb)
          clear BK1002
          clear HB
          have BK1002 := n0_
          have HB := n1_
          clear n0_ n1_
          (try clear hb)
          (try clear hb2)
          (try clear hk)
          (try clear hi)
          refine hK.out _ _ ⟨(blk_cell BK1002.out 0).trans rfl, (blk_cell BK1002.out 1).trans rfl⟩ (fun hHeld => ?_)
          clear hK K
          refine norm_ (a' := ?_) ?_ ?_
          rotate_left
          ·show Act.put _ (some 22) _ = _
           simp only [Act.put, List.setIfInBounds_toArray, List.set_cons_zero, List.set_cons_succ, i64_w, i32_w]
           rfl
          refine pz_ 8 23 511 ?_
          refine pz_ 9 24 1023 ?_
          refine pz_ 10 25 2047 ?_
          refine pz_ 11 26 4095 ?_
          refine tz_ 12 27 8191 ?_
          refine pz_ 13 28 16383 ?_
          refine pz_ 14 29 32767 ?_
          refine pz_ 15 30 65535 ?_
          refine pz_ 16 31 131071 ?_
          refine uz_ 17 32 262143 ?_
          refine uz_ 18 33 524287 ?_
          refine uz_ 19 34 1048575 ?_
          refine uz_ 20 35 2097151 ?_
          refine uz_ 21 36 4194303 ?_
          refine uz_ 22 37 8388607 ?_
          refine uz_ 23 38 16777215 ?_
          refine uz_ 24 39 33554431 ?_
          refine uz_ 25 40 67108863 ?_
          refine uz_ 26 41 134217727 ?_
          refine uz_ 27 42 268435455 ?_
          refine uz_ 28 43 536870911 ?_
          refine uz_ 29 44 1073741823 ?_
          refine uz_ 30 45 2147483647 ?_
          refine pz_ 31 46 4294967295 ?_
          refine done_ (done_of HT_.out (by kernel_rfl)) ?_
          try go_wp2
          go_ret
          exact ⟨rf_, bg_⟩
         ·rw [if_neg c10] at H
          have c10b0 : ((((rd_T83 l0 x10_1).f1).length : Int) == 0) = false := beq_eq_false_iff_ne.mpr c10
          have c10b1 : ((((rd_T83 l0 x10_1).f1).length : Int) != 0) = true := bne_iff_ne.mpr c10
          have c10b2 : ¬ (((rd_T83 l0 x10_1).f1) = []) := fun h_ => c10 (by rw [h_]; rfl)
          by_cases c17 : x10_1 > 0
          ·rw [if_pos c17] at H
           have c17b0 : decide (0 < x10_1) = true := decide_eq_true c17
           clear c17
           obtain ⟨ji18, hji18⟩ : ∃ j_ : Int, (wrap64 (x10_1 - 1)) = j_ := ⟨_, rfl⟩
           replace H : (if 0 ≤ (ji18) then (if (ji18) < (l0.length : Int) then ((spec_l2Cmp.f k1 ((rd_T83 l0 (ji18)).f0) ((rd_T83 l0 x10_1).f0)).bind fun t1006 => (if t1006 ≥ 0 then (some false) else (spec_GoodSeries.l0 k1 l0 l0 (l0.length : Int) (wrap64 (x10_1 + 1))))) else (none)) else (none)) = some r := by first | (rw [hji18] at H; exact H) | (simp only [hji18] at H ⊢; exact H)
           (try rw [hji18] at A6)
           (try rw [hji18] at A8)
           have hji18w : (IntKind.i64.wrap (x10_1 - 1)) = ji18 := (i64_w _).trans hji18
           by_cases c19 : 0 ≤ (ji18)
           ·rw [if_pos c19] at H
            have c19b0 : decide (0 ≤ (ji18)) = true := decide_eq_true c19
            clear c19
            by_cases c20 : (ji18) < (l0.length : Int)
            ·rw [if_pos c20] at H
             have c20b0 : decide ((ji18) < (l0.length : Int)) = true := decide_eq_true c20
             clear c20
             replace H := Option.bind_eq_some_iff.mp H
             obtain ⟨t1006, A210, H⟩ := H
             replace H : (if t1006 ≥ 0 then (some false) else (spec_GoodSeries.l0 k1 l0 l0 (l0.length : Int) (wrap64 (x10_1 + 1)))) = some r := H
             have A21 := am_ A210
             clear A210
             by_cases c22 : t1006 ≥ 0
             ·rw [if_pos c22] at H
              have c22b0 : decide (0 ≤ t1006) = true := decide_eq_true c22
              clear c22
              obtain rfl := Option.some.inj H
              have p1001 : 0 ≤ (x10_1 : Int) := od_
              have q1001 : x10_1 < (l0.length : Int) := od_
              obtain ⟨ad1001, A1001_0, c1001_0, A1001_1, c1001_1, e1001, hx1001_0, hx1001_1, hl1001_0, hi1001_0, hl1001_1, hi1001_1⟩ := at_T83 HR0.out x10_1 p1001 q1001
              cases e1001
              replace hx1001_0 := kp_ HB hx1001_0
              replace hx1001_1 := kp_ HB hx1001_1
              have HR1001_0 := am_ hi1001_0
              have HC1001_0 := am_ hl1001_0
              clear hi1001_0 hl1001_0
              have HR1001_1 := am_ hi1001_1
              have HC1001_1 := am_ hl1001_1
              clear hi1001_1 hl1001_1
              replace p1001 := eq_true p1001
              replace q1001 := eq_true q1001
              try go_wp2_with (first | ((with_reducible refine gate_dst (N := 4) rfl ?_); (try (refine gate_guard (by rfl) ?_; dsimp only)); refine bx_ 4 #[.slice none 0 0, .slice none 0 0] 83 ?_; intro gb1002 hg w23 hbox hb; have BK1002 := am_ (hbox); have GW1002 := am_ (gs_ hg : w.heap.size ≤ gb1002); replace HB := am_ (below_step bl_ hb); have GE1002 := GW1002; clear hb hbox hg; have hcz24_0 := bc2_0 BK1002; have hcz24_1 := bc2_1 BK1002; have hfz24_0 := bf_ BK1002 0; have hfz24_1 := bf_ BK1002 1))
              have n0_ : Aside0 (((w23.setCell ⟨gb1002, 0, none⟩ (.slice A1001_0 ((rd_T83 l0 x10_1).f0).length c1001_0)).setCell ⟨gb1002, 1, none⟩ (.slice A1001_1 ((rd_T83 l0 x10_1).f1).length c1001_1)).heap[gb1002]? = some (.cells #[.slice A1001_0 ((rd_T83 l0 x10_1).f0).length c1001_0, .slice A1001_1 ((rd_T83 l0 x10_1).f1).length c1001_1] 83 (0, 0))) := ⟨by (with_reducible repeat (first | refine blk_drewN ?_ _ | refine blk_drew ?_ | refine blk_alloc ?_ _)); refine blk_put (cs := #[.slice A1001_0 ((rd_T83 l0 x10_1).f0).length c1001_0, .slice none 0 0]) ?_ 1 _ rfl; (with_reducible repeat (first | refine blk_drewN ?_ _ | refine blk_drew ?_ | refine blk_alloc ?_ _)); refine blk_put (cs := #[.slice none 0 0, .slice none 0 0]) ?_ 0 _ rfl; (with_reducible repeat (first | refine blk_drewN ?_ _ | refine blk_drew ?_ | refine blk_alloc ?_ _)); exact BK1002.out⟩
              have n1_ : Aside0 (Below w.heap.size w ((w23.setCell ⟨gb1002, 0, none⟩ (.slice A1001_0 ((rd_T83 l0 x10_1).f0).length c1001_0)).setCell ⟨gb1002, 1, none⟩ (.slice A1001_1 ((rd_T83 l0 x10_1).f1).length c1001_1))) := ⟨bg_⟩
              (try clear BK1002)
              (try clear HB)
              generalize ((w23.setCell ⟨gb1002, 0, none⟩ (.slice A1001_0 ((rd_T83 l0 x10_1).f0).length c1001_0)).setCell ⟨gb1002, 1, none⟩ (.slice A1001_1 ((rd_T83 l0 x10_1).f1).length c1001_1)) = w25 at n0_ n1_ ⊢
              have BK1002 := n0_
              have HB := n1_
              clear n0_ n1_
              have n0_ := am_ (blk_drew BK1002.out)
              have n1_ := am_ (below_drew1 HB.out)
              clear BK1002
              clear HB
              have BK1002 := n0_
              have HB := n1_
              clear n0_ n1_
              have p1005 : 0 ≤ ((ji18) : Int) := od_
              have q1005 : (ji18) < (l0.length : Int) := od_
              obtain ⟨ad1005, A1005_0, c1005_0, A1005_1, c1005_1, e1005, hx1005_0, hx1005_1, hl1005_0, hi1005_0, hl1005_1, hi1005_1⟩ := at_T83 HR0.out (ji18) p1005 q1005
              have hw1005_1 := hx1005_1
              have hw1005_0 := hx1005_0
              obtain rfl : ad1001 = ad1005 := (by injection e1005)
              replace hx1005_0 := kp_ HB hx1005_0
              replace hx1005_1 := kp_ HB hx1005_1
              have HR1005_0 := am_ hi1005_0
              have HC1005_0 := am_ hl1005_0
              clear hi1005_0 hl1005_0
              have HR1005_1 := am_ hi1005_1
              have HC1005_1 := am_ hl1005_1
              clear hi1005_1 hl1005_1
              replace p1005 := eq_true p1005
              replace q1005 := eq_true q1005
              refine start_ (n := 32) (S := fun w' => w'.cell? ⟨gb1002, 0, none⟩ = some (.slice A1001_0 ((rd_T83 l0 x10_1).f0).length c1001_0) ∧ w'.cell? ⟨gb1002, 1, none⟩ = some (.slice A1001_1 ((rd_T83 l0 x10_1).f1).length c1001_1) ∧ w'.cell? (ad1001.add (((ji18)).toNat * 2)) = some (.slice A1005_0 ((rd_T83 l0 (ji18)).f0).length c1005_0) ∧ w'.cell? ⟨(ad1001.add (((ji18)).toNat * 2)).block, (ad1001.add (((ji18)).toNat * 2)).off + 1, none⟩ = some (.slice A1005_1 ((rd_T83 l0 (ji18)).f1).length c1005_1)) (ds := []) (bz 32 0) (by kernel_rfl) rfl rfl ⟨(blk_cell BK1002.out 0).trans rfl, (blk_cell BK1002.out 1).trans rfl, (kp_ HB hw1005_0 :), (kp_ HB hw1005_1 :)⟩ (fun hHeld => ?_); refine with_tabW spec_GoodSeries.tab6 spec_GoodSeries.bits6 (fun HT_ HW_ => ?_)
              generalize w25.drew = w26 at BK1002 HB HR1005_0 HR1005_1 hx1005_0 hx1005_1 hHeld ⊢
              refine pz_ 0 15 1 ?_
              refine tz_ 1 16 3 ?_
              refine one_ (i := 2) (N := some 17) (bz 32 7) rfl rfl (one_of HT_.out (by kernel_rfl)) (by decide) (fun K hK => ?_)
              refine goes_ Try.func90 (by kernel_rfl) rfl #[.slice A1001_0 ((rd_T83 l0 x10_1).f0).length c1001_0] (by rfl) rfl rfl ag_ ?_
              with_reducible refine (spec_l7Named.calls k1 _ _ ((rd_T83 l0 x10_1).f0) true _ ?side1 ?side2 A6.out).mono ?_
              (case side1 => exact cc_ (Kd.C_below HR1001_0.out HB.out))
              (case side2 => exact HC1001_0.out)
              rintro e w27 ⟨rfl, hb⟩
              refine ⟨_, rfl, ?_⟩
              have n0_ := am_ (blk_below (g := gb1002) (vk_ BK1002) hb)
              have n1_ := am_ (below_step bg_ hb)
              clear BK1002
              clear HB
              have BK1002 := n0_
              have HB := n1_
              clear n0_ n1_
              (try clear hb)
              (try clear hb2)
              (try clear hk)
              (try clear hi)
              refine hK.out _ _ ⟨(blk_cell BK1002.out 0).trans rfl, (blk_cell BK1002.out 1).trans rfl, (kp_ HB hw1005_0 :), (kp_ HB hw1005_1 :)⟩ (fun hHeld => ?_)
              clear hK K
              refine norm_ (a' := ?_) ?_ ?_
              rotate_left
              ·show Act.put _ (some 17) _ = _
               simp only [Act.put, List.setIfInBounds_toArray, List.set_cons_zero, List.set_cons_succ, i64_w, i32_w]
               rfl
              refine pz_ 3 18 15 ?_
              refine pz_ 4 19 31 ?_
              refine pz_ 5 20 63 ?_
              refine tz_ 6 21 127 ?_
              refine one_ (i := 7) (N := some 22) (bz 32 255) rfl rfl (one_of HT_.out (by kernel_rfl)) (by decide) (fun K hK => ?_)
              refine goes_ Try.func91 (by kernel_rfl) rfl #[.slice A1001_1 ((rd_T83 l0 x10_1).f1).length c1001_1] (by rfl) rfl rfl ag_ ?_
              with_reducible refine (spec_GoodSamples.calls k1 _ _ ((rd_T83 l0 x10_1).f1) true _ ?side1 ?side2 A8.out).mono ?_
              (case side1 => exact cc_ (Kd.C_below HR1001_1.out HB.out))
              (case side2 => exact HC1001_1.out)
              rintro e w28 ⟨rfl, hb⟩
              refine ⟨_, rfl, ?_⟩
              have n0_ := am_ (blk_below (g := gb1002) (vk_ BK1002) hb)
              have n1_ := am_ (below_step bg_ hb)
              clear BK1002
              clear HB
              have BK1002 := n0_
              have HB := n1_
              clear n0_ n1_
              (try clear hb)
              (try clear hb2)
              (try clear hk)
              (try clear hi)
              refine hK.out _ _ ⟨(blk_cell BK1002.out 0).trans rfl, (blk_cell BK1002.out 1).trans rfl, (kp_ HB hw1005_0 :), (kp_ HB hw1005_1 :)⟩ (fun hHeld => ?_)
              clear hK K
              refine norm_ (a' := ?_) ?_ ?_
              rotate_left
              ·show Act.put _ (some 22) _ = _
               simp only [Act.put, List.setIfInBounds_toArray, List.set_cons_zero, List.set_cons_succ, i64_w, i32_w]
               rfl
              refine pz_ 8 23 511 ?_
              refine pz_ 9 24 1023 ?_
              refine pz_ 10 25 2047 ?_
              refine pz_ 11 26 4095 ?_
              refine tz_ 12 27 8191 ?_
              refine pz_ 13 28 16383 ?_
              refine pz_ 14 29 32767 ?_
              refine pz_ 15 30 65535 ?_
              refine pz_ 16 31 131071 ?_
              refine pz_ 17 32 262143 ?_
              refine pz_ 18 33 524287 ?_
              refine pz_ 19 34 1048575 ?_
              refine pz_ 20 35 2097151 ?_
              refine pz_ 21 36 4194303 ?_
              refine pz_ 22 37 8388607 ?_
              refine pz_ 23 38 16777215 ?_
              refine pz_ 24 39 33554431 ?_
              refine pz_ 26 41 100663295 ?_
              refine tz_ 25 40 134217727 ?_
              refine tz_ 27 42 268435455 ?_
              refine one_ (i := 28) (N := some 43) (bz 32 536870911) rfl rfl (one_of HT_.out (by kernel_rfl)) (by decide) (fun K hK => ?_)
              refine goes_ Try.func50 (by kernel_rfl) rfl #[.slice A1005_0 ((rd_T83 l0 (ji18)).f0).length c1005_0, .slice A1001_0 ((rd_T83 l0 x10_1).f0).length c1001_0] (by rfl) rfl rfl (by (try simp only [List.map_toArray, List.map_cons, List.map_nil]); first | done | (simp only [hji18]; rfl) | rfl | (simp only [List.length_drop, List.length_take]; rfl)) ?_
              with_reducible refine (spec_l2Cmp.calls k1 _ _ ((rd_T83 l0 (ji18)).f0) _ _ ((rd_T83 l0 x10_1).f0) t1006 _ ?side1 ?side2 ?side3 ?side4 A21.out).mono ?_
              (case side1 => exact cc_ (Kd.C_below HR1005_0.out HB.out))
              (case side2 => exact HC1005_0.out)
              (case side3 => exact cc_ (Kd.C_below HR1001_0.out HB.out))
              (case side4 => exact HC1001_0.out)
              rintro e w' ⟨rfl, ⟨nd, rfl⟩⟩
              refine ⟨_, rfl, ?_⟩
              refine hK.out _ _ ⟨(blk_cell BK1002.out 0).trans rfl, (blk_cell BK1002.out 1).trans rfl, (kp_ HB hw1005_0 :), (kp_ HB hw1005_1 :)⟩ (fun hHeld => ?_)
              clear hK K
              refine norm_ (a' := ?_) ?_ ?_
              rotate_left
              ·show Act.put _ (some 43) _ = _
               simp only [Act.put, List.setIfInBounds_toArray, List.set_cons_zero, List.set_cons_succ, i64_w, i32_w]
               rfl
              refine pz_ 29 44 1073741823 ?_
              refine pz_ 30 45 2147483647 ?_
              refine pz_ 31 46 4294967295 ?_
              refine done_ (done_of HT_.out (by kernel_rfl)) ?_
              try go_wp2
              go_ret
              exact ⟨by first | rfl | (simp [errW_none, errW_some] <;> rfl) | (simp only [← hji18]; first | rfl | (simp [errW_none, errW_some] <;> rfl)) | (simp [*, errW_none, errW_some] <;> rfl) | (simp [*, Go.Proofs.Ytknlgignjbghkaa.Gt.nil_bne]; done), bg_⟩
             ·rw [if_neg c22] at H
              have c22b0 : decide (0 ≤ t1006) = false := decide_eq_false c22
              clear c22
              have H' := am_ H
              clear H
              have p1001 : 0 ≤ (x10_1 : Int) := od_
              have q1001 : x10_1 < (l0.length : Int) := od_
              obtain ⟨ad1001, A1001_0, c1001_0, A1001_1, c1001_1, e1001, hx1001_0, hx1001_1, hl1001_0, hi1001_0, hl1001_1, hi1001_1⟩ := at_T83 HR0.out x10_1 p1001 q1001
              cases e1001
              replace hx1001_0 := kp_ HB hx1001_0
              replace hx1001_1 := kp_ HB hx1001_1
              have HR1001_0 := am_ hi1001_0
              have HC1001_0 := am_ hl1001_0
              clear hi1001_0 hl1001_0
              have HR1001_1 := am_ hi1001_1
              have HC1001_1 := am_ hl1001_1
              clear hi1001_1 hl1001_1
              replace p1001 := eq_true p1001
              replace q1001 := eq_true q1001
              try go_wp2_with (first | ((with_reducible refine gate_dst (N := 4) rfl ?_); (try (refine gate_guard (by rfl) ?_; dsimp only)); refine bx_ 4 #[.slice none 0 0, .slice none 0 0] 83 ?_; intro gb1002 hg w29 hbox hb; have BK1002 := am_ (hbox); have GW1002 := am_ (gs_ hg : w.heap.size ≤ gb1002); replace HB := am_ (below_step bl_ hb); have GE1002 := GW1002; clear hb hbox hg; have hcz30_0 := bc2_0 BK1002; have hcz30_1 := bc2_1 BK1002; have hfz30_0 := bf_ BK1002 0; have hfz30_1 := bf_ BK1002 1))
              have n0_ : Aside0 (((w29.setCell ⟨gb1002, 0, none⟩ (.slice A1001_0 ((rd_T83 l0 x10_1).f0).length c1001_0)).setCell ⟨gb1002, 1, none⟩ (.slice A1001_1 ((rd_T83 l0 x10_1).f1).length c1001_1)).heap[gb1002]? = some (.cells #[.slice A1001_0 ((rd_T83 l0 x10_1).f0).length c1001_0, .slice A1001_1 ((rd_T83 l0 x10_1).f1).length c1001_1] 83 (0, 0))) := ⟨by (with_reducible repeat (first | refine blk_drewN ?_ _ | refine blk_drew ?_ | refine blk_alloc ?_ _)); refine blk_put (cs := #[.slice A1001_0 ((rd_T83 l0 x10_1).f0).length c1001_0, .slice none 0 0]) ?_ 1 _ rfl; (with_reducible repeat (first | refine blk_drewN ?_ _ | refine blk_drew ?_ | refine blk_alloc ?_ _)); refine blk_put (cs := #[.slice none 0 0, .slice none 0 0]) ?_ 0 _ rfl; (with_reducible repeat (first | refine blk_drewN ?_ _ | refine blk_drew ?_ | refine blk_alloc ?_ _)); exact BK1002.out⟩
              have n1_ : Aside0 (Below w.heap.size w ((w29.setCell ⟨gb1002, 0, none⟩ (.slice A1001_0 ((rd_T83 l0 x10_1).f0).length c1001_0)).setCell ⟨gb1002, 1, none⟩ (.slice A1001_1 ((rd_T83 l0 x10_1).f1).length c1001_1))) := ⟨bg_⟩
              (try clear BK1002)
              (try clear HB)
              generalize ((w29.setCell ⟨gb1002, 0, none⟩ (.slice A1001_0 ((rd_T83 l0 x10_1).f0).length c1001_0)).setCell ⟨gb1002, 1, none⟩ (.slice A1001_1 ((rd_T83 l0 x10_1).f1).length c1001_1)) = w31 at n0_ n1_ ⊢
              have BK1002 := n0_
              have HB := n1_
              clear n0_ n1_
              have n0_ := am_ (blk_drew BK1002.out)
              have n1_ := am_ (below_drew1 HB.out)
              clear BK1002
              clear HB
              have BK1002 := n0_
              have HB := n1_
              clear n0_ n1_
              have p1005 : 0 ≤ ((ji18) : Int) := od_
              have q1005 : (ji18) < (l0.length : Int) := od_
              obtain ⟨ad1005, A1005_0, c1005_0, A1005_1, c1005_1, e1005, hx1005_0, hx1005_1, hl1005_0, hi1005_0, hl1005_1, hi1005_1⟩ := at_T83 HR0.out (ji18) p1005 q1005
              have hw1005_1 := hx1005_1
              have hw1005_0 := hx1005_0
              obtain rfl : ad1001 = ad1005 := (by injection e1005)
              replace hx1005_0 := kp_ HB hx1005_0
              replace hx1005_1 := kp_ HB hx1005_1
              have HR1005_0 := am_ hi1005_0
              have HC1005_0 := am_ hl1005_0
              clear hi1005_0 hl1005_0
              have HR1005_1 := am_ hi1005_1
              have HC1005_1 := am_ hl1005_1
              clear hi1005_1 hl1005_1
              replace p1005 := eq_true p1005
              replace q1005 := eq_true q1005
              refine start_ (n := 32) (S := fun w' => w'.cell? ⟨gb1002, 0, none⟩ = some (.slice A1001_0 ((rd_T83 l0 x10_1).f0).length c1001_0) ∧ w'.cell? ⟨gb1002, 1, none⟩ = some (.slice A1001_1 ((rd_T83 l0 x10_1).f1).length c1001_1) ∧ w'.cell? (ad1001.add (((ji18)).toNat * 2)) = some (.slice A1005_0 ((rd_T83 l0 (ji18)).f0).length c1005_0) ∧ w'.cell? ⟨(ad1001.add (((ji18)).toNat * 2)).block, (ad1001.add (((ji18)).toNat * 2)).off + 1, none⟩ = some (.slice A1005_1 ((rd_T83 l0 (ji18)).f1).length c1005_1)) (ds := []) (bz 32 0) (by kernel_rfl) rfl rfl ⟨(blk_cell BK1002.out 0).trans rfl, (blk_cell BK1002.out 1).trans rfl, (kp_ HB hw1005_0 :), (kp_ HB hw1005_1 :)⟩ (fun hHeld => ?_); refine with_tabW spec_GoodSeries.tab6 spec_GoodSeries.bits6 (fun HT_ HW_ => ?_)
              generalize w31.drew = w32 at BK1002 HB HR1005_0 HR1005_1 hx1005_0 hx1005_1 hHeld ⊢
              refine pz_ 0 15 1 ?_
              refine tz_ 1 16 3 ?_
              refine one_ (i := 2) (N := some 17) (bz 32 7) rfl rfl (one_of HT_.out (by kernel_rfl)) (by decide) (fun K hK => ?_)
              refine goes_ Try.func90 (by kernel_rfl) rfl #[.slice A1001_0 ((rd_T83 l0 x10_1).f0).length c1001_0] (by rfl) rfl rfl ag_ ?_
              with_reducible refine (spec_l7Named.calls k1 _ _ ((rd_T83 l0 x10_1).f0) true _ ?side1 ?side2 A6.out).mono ?_
              (case side1 => exact cc_ (Kd.C_below HR1001_0.out HB.out))
              (case side2 => exact HC1001_0.out)
              rintro e w33 ⟨rfl, hb⟩
              refine ⟨_, rfl, ?_⟩
              have n0_ := am_ (blk_below (g := gb1002) (vk_ BK1002) hb)
              have n1_ := am_ (below_step bg_ hb)
              clear BK1002
              clear HB
              have BK1002 := n0_
              have HB := n1_
              clear n0_ n1_
              (try clear hb)
              (try clear hb2)
              (try clear hk)
              (try clear hi)
              refine hK.out _ _ ⟨(blk_cell BK1002.out 0).trans rfl, (blk_cell BK1002.out 1).trans rfl, (kp_ HB hw1005_0 :), (kp_ HB hw1005_1 :)⟩ (fun hHeld => ?_)
              clear hK K
              refine norm_ (a' := ?_) ?_ ?_
              rotate_left
              ·show Act.put _ (some 17) _ = _
               simp only [Act.put, List.setIfInBounds_toArray, List.set_cons_zero, List.set_cons_succ, i64_w, i32_w]
               rfl
              refine pz_ 3 18 15 ?_
              refine pz_ 4 19 31 ?_
              refine pz_ 5 20 63 ?_
              refine tz_ 6 21 127 ?_
              refine one_ (i := 7) (N := some 22) (bz 32 255) rfl rfl (one_of HT_.out (by kernel_rfl)) (by decide) (fun K hK => ?_)
              refine goes_ Try.func91 (by kernel_rfl) rfl #[.slice A1001_1 ((rd_T83 l0 x10_1).f1).length c1001_1] (by rfl) rfl rfl ag_ ?_
              with_reducible refine (spec_GoodSamples.calls k1 _ _ ((rd_T83 l0 x10_1).f1) true _ ?side1 ?side2 A8.out).mono ?_
              (case side1 => exact cc_ (Kd.C_below HR1001_1.out HB.out))
              (case side2 => exact HC1001_1.out)
              rintro e w34 ⟨rfl, hb⟩
              refine ⟨_, rfl, ?_⟩
              have n0_ := am_ (blk_below (g := gb1002) (vk_ BK1002) hb)
              have n1_ := am_ (below_step bg_ hb)
              clear BK1002
              clear HB
              have BK1002 := n0_
              have HB := n1_
              clear n0_ n1_
              (try clear hb)
              (try clear hb2)
              (try clear hk)
              (try clear hi)
              refine hK.out _ _ ⟨(blk_cell BK1002.out 0).trans rfl, (blk_cell BK1002.out 1).trans rfl, (kp_ HB hw1005_0 :), (kp_ HB hw1005_1 :)⟩ (fun hHeld => ?_)
              clear hK K
              refine norm_ (a' := ?_) ?_ ?_
              rotate_left
              ·show Act.put _ (some 22) _ = _
               simp only [Act.put, List.setIfInBounds_toArray, List.set_cons_zero, List.set_cons_succ, i64_w, i32_w]
               rfl
              refine pz_ 8 23 511 ?_
              refine pz_ 9 24 1023 ?_
              refine pz_ 10 25 2047 ?_
              refine pz_ 11 26 4095 ?_
              refine tz_ 12 27 8191 ?_
              refine pz_ 13 28 16383 ?_
              refine pz_ 14 29 32767 ?_
              refine pz_ 15 30 65535 ?_
              refine pz_ 16 31 131071 ?_
              refine pz_ 17 32 262143 ?_
              refine pz_ 18 33 524287 ?_
              refine pz_ 19 34 1048575 ?_
              refine pz_ 20 35 2097151 ?_
              refine pz_ 21 36 4194303 ?_
              refine pz_ 22 37 8388607 ?_
              refine pz_ 23 38 16777215 ?_
              refine pz_ 24 39 33554431 ?_
              refine pz_ 26 41 100663295 ?_
              refine tz_ 25 40 134217727 ?_
              refine tz_ 27 42 268435455 ?_
              refine one_ (i := 28) (N := some 43) (bz 32 536870911) rfl rfl (one_of HT_.out (by kernel_rfl)) (by decide) (fun K hK => ?_)
              refine goes_ Try.func50 (by kernel_rfl) rfl #[.slice A1005_0 ((rd_T83 l0 (ji18)).f0).length c1005_0, .slice A1001_0 ((rd_T83 l0 x10_1).f0).length c1001_0] (by rfl) rfl rfl (by (try simp only [List.map_toArray, List.map_cons, List.map_nil]); first | done | (simp only [hji18]; rfl) | rfl | (simp only [List.length_drop, List.length_take]; rfl)) ?_
              with_reducible refine (spec_l2Cmp.calls k1 _ _ ((rd_T83 l0 (ji18)).f0) _ _ ((rd_T83 l0 x10_1).f0) t1006 _ ?side1 ?side2 ?side3 ?side4 A21.out).mono ?_
              (case side1 => exact cc_ (Kd.C_below HR1005_0.out HB.out))
              (case side2 => exact HC1005_0.out)
              (case side3 => exact cc_ (Kd.C_below HR1001_0.out HB.out))
              (case side4 => exact HC1001_0.out)
              rintro e w' ⟨rfl, ⟨nd, rfl⟩⟩
              refine ⟨_, rfl, ?_⟩
              refine hK.out _ _ ⟨(blk_cell BK1002.out 0).trans rfl, (blk_cell BK1002.out 1).trans rfl, (kp_ HB hw1005_0 :), (kp_ HB hw1005_1 :)⟩ (fun hHeld => ?_)
              clear hK K
              refine norm_ (a' := ?_) ?_ ?_
              rotate_left
              ·show Act.put _ (some 43) _ = _
               simp only [Act.put, List.setIfInBounds_toArray, List.set_cons_zero, List.set_cons_succ, i64_w, i32_w]
               rfl
              refine pz_ 29 44 1073741823 ?_
              refine pz_ 30 45 2147483647 ?_
              refine pz_ 31 46 4294967295 ?_
              refine done_ (done_of HT_.out (by kernel_rfl)) ?_
              try go_wp2
              go_roundg k1
              case measure => have := HK1.out; omega
              case rel => exact ⟨(wrap64 (x10_1 + 1)), rs_, H', ⟨by have := HK1.out; omega⟩, ⟨bg_⟩⟩
            ·rw [if_neg c20] at H
             exact absurd H (by simp)
           ·rw [if_neg c19] at H
            exact absurd H (by simp)
          ·rw [if_neg c17] at H
           have c17b0 : decide (0 < x10_1) = false := decide_eq_false c17
           clear c17
           have H' := am_ H
           clear H
           have p1001 : 0 ≤ (x10_1 : Int) := od_
           have q1001 : x10_1 < (l0.length : Int) := od_
           obtain ⟨ad1001, A1001_0, c1001_0, A1001_1, c1001_1, e1001, hx1001_0, hx1001_1, hl1001_0, hi1001_0, hl1001_1, hi1001_1⟩ := at_T83 HR0.out x10_1 p1001 q1001
           cases e1001
           replace hx1001_0 := kp_ HB hx1001_0
           replace hx1001_1 := kp_ HB hx1001_1
           have HR1001_0 := am_ hi1001_0
           have HC1001_0 := am_ hl1001_0
           clear hi1001_0 hl1001_0
           have HR1001_1 := am_ hi1001_1
           have HC1001_1 := am_ hl1001_1
           clear hi1001_1 hl1001_1
           replace p1001 := eq_true p1001
           replace q1001 := eq_true q1001
           try go_wp2_with (first | ((with_reducible refine gate_dst (N := 4) rfl ?_); (try (refine gate_guard (by rfl) ?_; dsimp only)); refine bx_ 4 #[.slice none 0 0, .slice none 0 0] 83 ?_; intro gb1002 hg w35 hbox hb; have BK1002 := am_ (hbox); have GW1002 := am_ (gs_ hg : w.heap.size ≤ gb1002); replace HB := am_ (below_step bl_ hb); have GE1002 := GW1002; clear hb hbox hg; have hcz36_0 := bc2_0 BK1002; have hcz36_1 := bc2_1 BK1002; have hfz36_0 := bf_ BK1002 0; have hfz36_1 := bf_ BK1002 1))
           have n0_ : Aside0 (((w35.setCell ⟨gb1002, 0, none⟩ (.slice A1001_0 ((rd_T83 l0 x10_1).f0).length c1001_0)).setCell ⟨gb1002, 1, none⟩ (.slice A1001_1 ((rd_T83 l0 x10_1).f1).length c1001_1)).heap[gb1002]? = some (.cells #[.slice A1001_0 ((rd_T83 l0 x10_1).f0).length c1001_0, .slice A1001_1 ((rd_T83 l0 x10_1).f1).length c1001_1] 83 (0, 0))) := ⟨by (with_reducible repeat (first | refine blk_drewN ?_ _ | refine blk_drew ?_ | refine blk_alloc ?_ _)); refine blk_put (cs := #[.slice A1001_0 ((rd_T83 l0 x10_1).f0).length c1001_0, .slice none 0 0]) ?_ 1 _ rfl; (with_reducible repeat (first | refine blk_drewN ?_ _ | refine blk_drew ?_ | refine blk_alloc ?_ _)); refine blk_put (cs := #[.slice none 0 0, .slice none 0 0]) ?_ 0 _ rfl; (with_reducible repeat (first | refine blk_drewN ?_ _ | refine blk_drew ?_ | refine blk_alloc ?_ _)); exact BK1002.out⟩
           have n1_ : Aside0 (Below w.heap.size w ((w35.setCell ⟨gb1002, 0, none⟩ (.slice A1001_0 ((rd_T83 l0 x10_1).f0).length c1001_0)).setCell ⟨gb1002, 1, none⟩ (.slice A1001_1 ((rd_T83 l0 x10_1).f1).length c1001_1))) := ⟨bg_⟩
           (try clear BK1002)
           (try clear HB)
           generalize ((w35.setCell ⟨gb1002, 0, none⟩ (.slice A1001_0 ((rd_T83 l0 x10_1).f0).length c1001_0)).setCell ⟨gb1002, 1, none⟩ (.slice A1001_1 ((rd_T83 l0 x10_1).f1).length c1001_1)) = w37 at n0_ n1_ ⊢
           have BK1002 := n0_
           have HB := n1_
           clear n0_ n1_
           have n0_ := am_ (blk_drew BK1002.out)
           have n1_ := am_ (below_drew1 HB.out)
           clear BK1002
           clear HB
           have BK1002 := n0_
           have HB := n1_
           clear n0_ n1_
           refine start_ (n := 32) (S := fun w' => w'.cell? ⟨gb1002, 0, none⟩ = some (.slice A1001_0 ((rd_T83 l0 x10_1).f0).length c1001_0) ∧ w'.cell? ⟨gb1002, 1, none⟩ = some (.slice A1001_1 ((rd_T83 l0 x10_1).f1).length c1001_1)) (ds := []) (bz 32 0) (by kernel_rfl) rfl rfl ⟨(blk_cell BK1002.out 0).trans rfl, (blk_cell BK1002.out 1).trans rfl⟩ (fun hHeld => ?_); refine with_tabW spec_GoodSeries.tab6 spec_GoodSeries.bits6 (fun HT_ HW_ => ?_)
           generalize w37.drew = w38 at BK1002 HB hHeld ⊢
           refine pz_ 0 15 1 ?_
           refine tz_ 1 16 3 ?_
           refine one_ (i := 2) (N := some 17) (bz 32 7) rfl rfl (one_of HT_.out (by kernel_rfl)) (by decide) (fun K hK => ?_)
           refine goes_ Try.func90 (by kernel_rfl) rfl #[.slice A1001_0 ((rd_T83 l0 x10_1).f0).length c1001_0] (by rfl) rfl rfl ag_ ?_
           with_reducible refine (spec_l7Named.calls k1 _ _ ((rd_T83 l0 x10_1).f0) true _ ?side1 ?side2 A6.out).mono ?_
           (case side1 => exact cc_ (Kd.C_below HR1001_0.out HB.out))
           (case side2 => exact HC1001_0.out)
           rintro e w39 ⟨rfl, hb⟩
           refine ⟨_, rfl, ?_⟩
           have n0_ := am_ (blk_below (g := gb1002) (vk_ BK1002) hb)
           have n1_ := am_ (below_step bg_ hb)
           clear BK1002
           clear HB
           have BK1002 := n0_
           have HB := n1_
           clear n0_ n1_
           (try clear hb)
           (try clear hb2)
           (try clear hk)
           (try clear hi)
           refine hK.out _ _ ⟨(blk_cell BK1002.out 0).trans rfl, (blk_cell BK1002.out 1).trans rfl⟩ (fun hHeld => ?_)
           clear hK K
           refine norm_ (a' := ?_) ?_ ?_
           rotate_left
           ·show Act.put _ (some 17) _ = _
            simp only [Act.put, List.setIfInBounds_toArray, List.set_cons_zero, List.set_cons_succ, i64_w, i32_w]
            rfl
           refine pz_ 3 18 15 ?_
           refine pz_ 4 19 31 ?_
           refine pz_ 5 20 63 ?_
           refine tz_ 6 21 127 ?_
           refine one_ (i := 7) (N := some 22) (bz 32 255) rfl rfl (one_of HT_.out (by kernel_rfl)) (by decide) (fun K hK => ?_)
           refine goes_ Try.func91 (by kernel_rfl) rfl #[.slice A1001_1 ((rd_T83 l0 x10_1).f1).length c1001_1] (by rfl) rfl rfl ag_ ?_
           with_reducible refine (spec_GoodSamples.calls k1 _ _ ((rd_T83 l0 x10_1).f1) true _ ?side1 ?side2 A8.out).mono ?_
           (case side1 => exact cc_ (Kd.C_below HR1001_1.out HB.out))
           (case side2 => exact HC1001_1.out)
           rintro e w40 ⟨rfl, hb⟩
           refine ⟨_, rfl, ?_⟩
           have n0_ := am_ (blk_below (g := gb1002) (vk_ BK1002) hb)
           have n1_ := am_ (below_step bg_ hb)
           clear BK1002
           clear HB
           have BK1002 := n0_
           have HB := n1_
           clear n0_ n1_
           (try clear hb)
           (try clear hb2)
           (try clear hk)
           (try clear hi)
           refine hK.out _ _ ⟨(blk_cell BK1002.out 0).trans rfl, (blk_cell BK1002.out 1).trans rfl⟩ (fun hHeld => ?_)
           clear hK K
           refine norm_ (a' := ?_) ?_ ?_
           rotate_left
           ·show Act.put _ (some 22) _ = _
            simp only [Act.put, List.setIfInBounds_toArray, List.set_cons_zero, List.set_cons_succ, i64_w, i32_w]
            rfl
           refine pz_ 8 23 511 ?_
           refine pz_ 9 24 1023 ?_
           refine pz_ 10 25 2047 ?_
           refine pz_ 11 26 4095 ?_
           refine tz_ 12 27 8191 ?_
           refine pz_ 13 28 16383 ?_
           refine pz_ 14 29 32767 ?_
           refine pz_ 15 30 65535 ?_
           refine pz_ 16 31 131071 ?_
           refine pz_ 17 32 262143 ?_
           refine pz_ 18 33 524287 ?_
           refine pz_ 19 34 1048575 ?_
           refine uz_ 20 35 2097151 ?_
           refine uz_ 21 36 4194303 ?_
           refine uz_ 22 37 8388607 ?_
           refine uz_ 23 38 16777215 ?_
           refine uz_ 24 39 33554431 ?_
           refine uz_ 25 40 67108863 ?_
           refine uz_ 26 41 134217727 ?_
           refine uz_ 27 42 268435455 ?_
           refine uz_ 28 43 536870911 ?_
           refine uz_ 29 44 1073741823 ?_
           refine pz_ 30 45 2147483647 ?_
           refine pz_ 31 46 4294967295 ?_
           refine done_ (done_of HT_.out (by kernel_rfl)) ?_
           try go_wp2
           go_roundg k1
           case measure => have := HK1.out; omega
           case rel => exact ⟨(wrap64 (x10_1 + 1)), rs_, H', ⟨by have := HK1.out; omega⟩, ⟨bg_⟩⟩
        ·replace c9 := Bool.eq_false_iff.mpr c9
         subst c9
         have H1 : (some false) = some r := by rw [if_neg (show ¬ (false = true) by decide)] at H; exact H
         clear H
         have H := H1
         clear H1
         obtain rfl := Option.some.inj H
         have p1001 : 0 ≤ (x10_1 : Int) := od_
         have q1001 : x10_1 < (l0.length : Int) := od_
         obtain ⟨ad1001, A1001_0, c1001_0, A1001_1, c1001_1, e1001, hx1001_0, hx1001_1, hl1001_0, hi1001_0, hl1001_1, hi1001_1⟩ := at_T83 HR0.out x10_1 p1001 q1001
         cases e1001
         replace hx1001_0 := kp_ HB hx1001_0
         replace hx1001_1 := kp_ HB hx1001_1
         have HR1001_0 := am_ hi1001_0
         have HC1001_0 := am_ hl1001_0
         clear hi1001_0 hl1001_0
         have HR1001_1 := am_ hi1001_1
         have HC1001_1 := am_ hl1001_1
         clear hi1001_1 hl1001_1
         replace p1001 := eq_true p1001
         replace q1001 := eq_true q1001
         try go_wp2_with (first | ((with_reducible refine gate_dst (N := 4) rfl ?_); (try (refine gate_guard (by rfl) ?_; dsimp only)); refine bx_ 4 #[.slice none 0 0, .slice none 0 0] 83 ?_; intro gb1002 hg w41 hbox hb; have BK1002 := am_ (hbox); have GW1002 := am_ (gs_ hg : w.heap.size ≤ gb1002); replace HB := am_ (below_step bl_ hb); have GE1002 := GW1002; clear hb hbox hg; have hcz42_0 := bc2_0 BK1002; have hcz42_1 := bc2_1 BK1002; have hfz42_0 := bf_ BK1002 0; have hfz42_1 := bf_ BK1002 1))
         have n0_ : Aside0 (((w41.setCell ⟨gb1002, 0, none⟩ (.slice A1001_0 ((rd_T83 l0 x10_1).f0).length c1001_0)).setCell ⟨gb1002, 1, none⟩ (.slice A1001_1 ((rd_T83 l0 x10_1).f1).length c1001_1)).heap[gb1002]? = some (.cells #[.slice A1001_0 ((rd_T83 l0 x10_1).f0).length c1001_0, .slice A1001_1 ((rd_T83 l0 x10_1).f1).length c1001_1] 83 (0, 0))) := ⟨by (with_reducible repeat (first | refine blk_drewN ?_ _ | refine blk_drew ?_ | refine blk_alloc ?_ _)); refine blk_put (cs := #[.slice A1001_0 ((rd_T83 l0 x10_1).f0).length c1001_0, .slice none 0 0]) ?_ 1 _ rfl; (with_reducible repeat (first | refine blk_drewN ?_ _ | refine blk_drew ?_ | refine blk_alloc ?_ _)); refine blk_put (cs := #[.slice none 0 0, .slice none 0 0]) ?_ 0 _ rfl; (with_reducible repeat (first | refine blk_drewN ?_ _ | refine blk_drew ?_ | refine blk_alloc ?_ _)); exact BK1002.out⟩
         have n1_ : Aside0 (Below w.heap.size w ((w41.setCell ⟨gb1002, 0, none⟩ (.slice A1001_0 ((rd_T83 l0 x10_1).f0).length c1001_0)).setCell ⟨gb1002, 1, none⟩ (.slice A1001_1 ((rd_T83 l0 x10_1).f1).length c1001_1))) := ⟨bg_⟩
         (try clear BK1002)
         (try clear HB)
         generalize ((w41.setCell ⟨gb1002, 0, none⟩ (.slice A1001_0 ((rd_T83 l0 x10_1).f0).length c1001_0)).setCell ⟨gb1002, 1, none⟩ (.slice A1001_1 ((rd_T83 l0 x10_1).f1).length c1001_1)) = w43 at n0_ n1_ ⊢
         have BK1002 := n0_
         have HB := n1_
         clear n0_ n1_
         have n0_ := am_ (blk_drew BK1002.out)
         have n1_ := am_ (below_drew1 HB.out)
         clear BK1002
         clear HB
         have BK1002 := n0_
         have HB := n1_
         clear n0_ n1_
         refine start_ (n := 32) (S := fun w' => w'.cell? ⟨gb1002, 0, none⟩ = some (.slice A1001_0 ((rd_T83 l0 x10_1).f0).length c1001_0) ∧ w'.cell? ⟨gb1002, 1, none⟩ = some (.slice A1001_1 ((rd_T83 l0 x10_1).f1).length c1001_1)) (ds := []) (bz 32 0) (by kernel_rfl) rfl rfl ⟨(blk_cell BK1002.out 0).trans rfl, (blk_cell BK1002.out 1).trans rfl⟩ (fun hHeld => ?_); refine with_tabW spec_GoodSeries.tab6 spec_GoodSeries.bits6 (fun HT_ HW_ => ?_)
         generalize w43.drew = w44 at BK1002 HB hHeld ⊢
         refine pz_ 0 15 1 ?_
         refine tz_ 1 16 3 ?_
         refine one_ (i := 2) (N := some 17) (bz 32 7) rfl rfl (one_of HT_.out (by kernel_rfl)) (by decide) (fun K hK => ?_)
         refine goes_ Try.func90 (by kernel_rfl) rfl #[.slice A1001_0 ((rd_T83 l0 x10_1).f0).length c1001_0] (by rfl) rfl rfl ag_ ?_
         with_reducible refine (spec_l7Named.calls k1 _ _ ((rd_T83 l0 x10_1).f0) true _ ?side1 ?side2 A6.out).mono ?_
         (case side1 => exact cc_ (Kd.C_below HR1001_0.out HB.out))
         (case side2 => exact HC1001_0.out)
         rintro e w45 ⟨rfl, hb⟩
         refine ⟨_, rfl, ?_⟩
         have n0_ := am_ (blk_below (g := gb1002) (vk_ BK1002) hb)
         have n1_ := am_ (below_step bg_ hb)
         clear BK1002
         clear HB
         have BK1002 := n0_
         have HB := n1_
         clear n0_ n1_
         (try clear hb)
         (try clear hb2)
         (try clear hk)
         (try clear hi)
         refine hK.out _ _ ⟨(blk_cell BK1002.out 0).trans rfl, (blk_cell BK1002.out 1).trans rfl⟩ (fun hHeld => ?_)
         clear hK K
         refine norm_ (a' := ?_) ?_ ?_
         rotate_left
         ·show Act.put _ (some 17) _ = _
          simp only [Act.put, List.setIfInBounds_toArray, List.set_cons_zero, List.set_cons_succ, i64_w, i32_w]
          rfl
         refine pz_ 3 18 15 ?_
         refine pz_ 4 19 31 ?_
         refine pz_ 5 20 63 ?_
         refine tz_ 6 21 127 ?_
         refine one_ (i := 7) (N := some 22) (bz 32 255) rfl rfl (one_of HT_.out (by kernel_rfl)) (by decide) (fun K hK => ?_)
         refine goes_ Try.func91 (by kernel_rfl) rfl #[.slice A1001_1 ((rd_T83 l0 x10_1).f1).length c1001_1] (by rfl) rfl rfl ag_ ?_
         with_reducible refine (spec_GoodSamples.calls k1 _ _ ((rd_T83 l0 x10_1).f1) false _ ?side1 ?side2 A8.out).mono ?_
         (case side1 => exact cc_ (Kd.C_below HR1001_1.out HB.out))
         (case side2 => exact HC1001_1.out)
         rintro e w46 ⟨rfl, hb⟩
         refine ⟨_, rfl, ?_⟩
         have n0_ := am_ (blk_below (g := gb1002) (vk_ BK1002) hb)
         have n1_ := am_ (below_step bg_ hb)
         clear BK1002
         clear HB
         have BK1002 := n0_
         have HB := n1_
         clear n0_ n1_
         (try clear hb)
         (try clear hb2)
         (try clear hk)
         (try clear hi)
         refine hK.out _ _ ⟨(blk_cell BK1002.out 0).trans rfl, (blk_cell BK1002.out 1).trans rfl⟩ (fun hHeld => ?_)
         clear hK K
         refine norm_ (a' := ?_) ?_ ?_
         rotate_left
         ·show Act.put _ (some 22) _ = _
          simp only [Act.put, List.setIfInBounds_toArray, List.set_cons_zero, List.set_cons_succ, i64_w, i32_w]
          rfl
         refine pz_ 8 23 511 ?_
         refine pz_ 9 24 1023 ?_
         refine pz_ 10 25 2047 ?_
         refine uz_ 11 26 4095 ?_
         refine uz_ 12 27 8191 ?_
         refine uz_ 13 28 16383 ?_
         refine uz_ 14 29 32767 ?_
         refine pz_ 15 30 65535 ?_
         refine pz_ 16 31 131071 ?_
         refine uz_ 17 32 262143 ?_
         refine uz_ 18 33 524287 ?_
         refine uz_ 19 34 1048575 ?_
         refine uz_ 20 35 2097151 ?_
         refine uz_ 21 36 4194303 ?_
         refine uz_ 22 37 8388607 ?_
         refine uz_ 23 38 16777215 ?_
         refine uz_ 24 39 33554431 ?_
         refine uz_ 25 40 67108863 ?_
         refine uz_ 26 41 134217727 ?_
         refine uz_ 27 42 268435455 ?_
         refine uz_ 28 43 536870911 ?_
         refine uz_ 29 44 1073741823 ?_
         refine uz_ 30 45 2147483647 ?_
         refine pz_ 31 46 4294967295 ?_
         refine done_ (done_of HT_.out (by kernel_rfl)) ?_
         try go_wp2
         go_ret
         exact ⟨rf_, bg_⟩
       ·replace c7 := Bool.eq_false_iff.mpr c7
        subst c7
        have H1 : (some false) = some r := by rw [if_neg (show ¬ (false = true) by decide)] at H; exact H
        clear H
        have H := H1
        clear H1
        obtain rfl := Option.some.inj H
        have p1001 : 0 ≤ (x10_1 : Int) := od_
        have q1001 : x10_1 < (l0.length : Int) := od_
        obtain ⟨ad1001, A1001_0, c1001_0, A1001_1, c1001_1, e1001, hx1001_0, hx1001_1, hl1001_0, hi1001_0, hl1001_1, hi1001_1⟩ := at_T83 HR0.out x10_1 p1001 q1001
        cases e1001
        replace hx1001_0 := kp_ HB hx1001_0
        replace hx1001_1 := kp_ HB hx1001_1
        have HR1001_0 := am_ hi1001_0
        have HC1001_0 := am_ hl1001_0
        clear hi1001_0 hl1001_0
        have HR1001_1 := am_ hi1001_1
        have HC1001_1 := am_ hl1001_1
        clear hi1001_1 hl1001_1
        replace p1001 := eq_true p1001
        replace q1001 := eq_true q1001
        try go_wp2_with (first | ((with_reducible refine gate_dst (N := 4) rfl ?_); (try (refine gate_guard (by rfl) ?_; dsimp only)); refine bx_ 4 #[.slice none 0 0, .slice none 0 0] 83 ?_; intro gb1002 hg w47 hbox hb; have BK1002 := am_ (hbox); have GW1002 := am_ (gs_ hg : w.heap.size ≤ gb1002); replace HB := am_ (below_step bl_ hb); have GE1002 := GW1002; clear hb hbox hg; have hcz48_0 := bc2_0 BK1002; have hcz48_1 := bc2_1 BK1002; have hfz48_0 := bf_ BK1002 0; have hfz48_1 := bf_ BK1002 1))
        have n0_ : Aside0 (((w47.setCell ⟨gb1002, 0, none⟩ (.slice A1001_0 ((rd_T83 l0 x10_1).f0).length c1001_0)).setCell ⟨gb1002, 1, none⟩ (.slice A1001_1 ((rd_T83 l0 x10_1).f1).length c1001_1)).heap[gb1002]? = some (.cells #[.slice A1001_0 ((rd_T83 l0 x10_1).f0).length c1001_0, .slice A1001_1 ((rd_T83 l0 x10_1).f1).length c1001_1] 83 (0, 0))) := ⟨by (with_reducible repeat (first | refine blk_drewN ?_ _ | refine blk_drew ?_ | refine blk_alloc ?_ _)); refine blk_put (cs := #[.slice A1001_0 ((rd_T83 l0 x10_1).f0).length c1001_0, .slice none 0 0]) ?_ 1 _ rfl; (with_reducible repeat (first | refine blk_drewN ?_ _ | refine blk_drew ?_ | refine blk_alloc ?_ _)); refine blk_put (cs := #[.slice none 0 0, .slice none 0 0]) ?_ 0 _ rfl; (with_reducible repeat (first | refine blk_drewN ?_ _ | refine blk_drew ?_ | refine blk_alloc ?_ _)); exact BK1002.out⟩
        have n1_ : Aside0 (Below w.heap.size w ((w47.setCell ⟨gb1002, 0, none⟩ (.slice A1001_0 ((rd_T83 l0 x10_1).f0).length c1001_0)).setCell ⟨gb1002, 1, none⟩ (.slice A1001_1 ((rd_T83 l0 x10_1).f1).length c1001_1))) := ⟨bg_⟩
        (try clear BK1002)
        (try clear HB)
        generalize ((w47.setCell ⟨gb1002, 0, none⟩ (.slice A1001_0 ((rd_T83 l0 x10_1).f0).length c1001_0)).setCell ⟨gb1002, 1, none⟩ (.slice A1001_1 ((rd_T83 l0 x10_1).f1).length c1001_1)) = w49 at n0_ n1_ ⊢
        have BK1002 := n0_
        have HB := n1_
        clear n0_ n1_
        have n0_ := am_ (blk_drew BK1002.out)
        have n1_ := am_ (below_drew1 HB.out)
        clear BK1002
        clear HB
        have BK1002 := n0_
        have HB := n1_
        clear n0_ n1_
        refine start_ (n := 32) (S := fun w' => w'.cell? ⟨gb1002, 0, none⟩ = some (.slice A1001_0 ((rd_T83 l0 x10_1).f0).length c1001_0) ∧ w'.cell? ⟨gb1002, 1, none⟩ = some (.slice A1001_1 ((rd_T83 l0 x10_1).f1).length c1001_1)) (ds := []) (bz 32 0) (by kernel_rfl) rfl rfl ⟨(blk_cell BK1002.out 0).trans rfl, (blk_cell BK1002.out 1).trans rfl⟩ (fun hHeld => ?_); refine with_tabW spec_GoodSeries.tab6 spec_GoodSeries.bits6 (fun HT_ HW_ => ?_)
        generalize w49.drew = w50 at BK1002 HB hHeld ⊢
        refine pz_ 0 15 1 ?_
        refine tz_ 1 16 3 ?_
        refine one_ (i := 2) (N := some 17) (bz 32 7) rfl rfl (one_of HT_.out (by kernel_rfl)) (by decide) (fun K hK => ?_)
        refine goes_ Try.func90 (by kernel_rfl) rfl #[.slice A1001_0 ((rd_T83 l0 x10_1).f0).length c1001_0] (by rfl) rfl rfl ag_ ?_
        with_reducible refine (spec_l7Named.calls k1 _ _ ((rd_T83 l0 x10_1).f0) false _ ?side1 ?side2 A6.out).mono ?_
        (case side1 => exact cc_ (Kd.C_below HR1001_0.out HB.out))
        (case side2 => exact HC1001_0.out)
        rintro e w51 ⟨rfl, hb⟩
        refine ⟨_, rfl, ?_⟩
        have n0_ := am_ (blk_below (g := gb1002) (vk_ BK1002) hb)
        have n1_ := am_ (below_step bg_ hb)
        clear BK1002
        clear HB
        have BK1002 := n0_
        have HB := n1_
        clear n0_ n1_
        (try clear hb)
        (try clear hb2)
        (try clear hk)
        (try clear hi)
        refine hK.out _ _ ⟨(blk_cell BK1002.out 0).trans rfl, (blk_cell BK1002.out 1).trans rfl⟩ (fun hHeld => ?_)
        clear hK K
        refine norm_ (a' := ?_) ?_ ?_
        rotate_left
        ·show Act.put _ (some 17) _ = _
         simp only [Act.put, List.setIfInBounds_toArray, List.set_cons_zero, List.set_cons_succ, i64_w, i32_w]
         rfl
        refine pz_ 3 18 15 ?_
        refine pz_ 4 19 31 ?_
        refine uz_ 5 20 63 ?_
        refine uz_ 6 21 127 ?_
        refine uz_ 7 22 255 ?_
        refine uz_ 8 23 511 ?_
        refine pz_ 9 24 1023 ?_
        refine pz_ 10 25 2047 ?_
        refine uz_ 11 26 4095 ?_
        refine uz_ 12 27 8191 ?_
        refine uz_ 13 28 16383 ?_
        refine uz_ 14 29 32767 ?_
        refine pz_ 15 30 65535 ?_
        refine pz_ 16 31 131071 ?_
        refine uz_ 17 32 262143 ?_
        refine uz_ 18 33 524287 ?_
        refine uz_ 19 34 1048575 ?_
        refine uz_ 20 35 2097151 ?_
        refine uz_ 21 36 4194303 ?_
        refine uz_ 22 37 8388607 ?_
        refine uz_ 23 38 16777215 ?_
        refine uz_ 24 39 33554431 ?_
        refine uz_ 25 40 67108863 ?_
        refine uz_ 26 41 134217727 ?_
        refine uz_ 27 42 268435455 ?_
        refine uz_ 28 43 536870911 ?_
        refine uz_ 29 44 1073741823 ?_
        refine uz_ 30 45 2147483647 ?_
        refine pz_ 31 46 4294967295 ?_
        refine done_ (done_of HT_.out (by kernel_rfl)) ?_
        try go_wp2
        go_ret
        exact ⟨rf_, bg_⟩
      ·rw [if_neg c5] at H
       exact absurd H (by simp)
     ·rw [if_neg c4] at H
      exact absurd H (by simp)
    ·rw [if_neg c3] at H
     have c3b0 : decide (x10_1 < (l0.length : Int)) = false := decide_eq_false c3
     clear c3
     obtain rfl := Option.some.inj H
     go_wp2
     go_ret
     exact ⟨rf_, bl_⟩

/-! ### laws_toSample: function 152 -/
def laws_toSample.f (a0_0 : Int) (a0_1 : Int) : Option (Int × Int) := some (a0_0, a0_1)
set_option maxHeartbeats 8000000 in
set_option maxRecDepth 100000 in
theorem laws_toSample.calls (a0_0 : Int) (a0_1 : Int) (r1 : Int) (r2 : Int) (w : World) (h : laws_toSample.f a0_0 a0_1 = some (r1, r2)) :
  Calls Try.prog 152 #[.agg #[.int .i64 a0_0, .int .i64 a0_1]] w fun e w' => e = .returned (.agg #[.int .i64 r1, .int .i64 r2]) ∧ Below w.heap.size w w' := by
 have hu180 := Try.underlying180
 have hu85 := Try.underlying85
 have HB := am_ (Below.refl w.heap.size w)
 have H : (some (a0_0, a0_1)) = some (r1, r2) := h
 clear h
 simp only [Option.some.injEq, Prod.mk.injEq] at H
 obtain ⟨rfl, rfl⟩ := H
 go_enter Try.func152, Try.ntmps152
 go_wp2_with (first | ((with_reducible refine gate_dst (N := 1) rfl ?_); refine bx_ 1 #[.int .i64 a0_0, .int .i64 a0_1] 180 ?_; intro gb1001 hg w2 hbox hb; have BK1001 := am_ (hbox); have GW1001 := am_ (gs_ hg : w.heap.size ≤ gb1001); replace HB := am_ (below_step bl_ hb); have GE1001 := GW1001; clear hb hbox hg) | ((with_reducible refine gate_dst (N := 2) rfl ?_); refine bx_ 2 #[.int .i64 0, .int .i64 0] 85 ?_; intro gb1002 hg w3 hbox hb; have BK1002 := am_ (hbox); have GW1002 := am_ (gg_ hg : w.heap.size ≤ gb1002); have NB1001_1002 := am_ ((by rw [hg]; exact Nat.ne_of_lt (blk_lt (g := gb1001) (o := .cells #[.int .i64 a0_0, .int .i64 a0_1] 180 (0, 0)) (vk_ BK1001)) : gb1001 ≠ gb1002)); have NB1002_1001 := am_ ((by rw [hg]; exact Nat.ne_of_gt (blk_lt (g := gb1001) (o := .cells #[.int .i64 a0_0, .int .i64 a0_1] 180 (0, 0)) (vk_ BK1001)) : gb1002 ≠ gb1001)); replace BK1001 := am_ (blk_below (g := gb1001) (vk_ BK1001) hb); replace HB := am_ (below_step bg_ hb); have GE1002 := GW1002; clear hb hbox hg) | ((with_reducible refine gate_dst (N := 3) rfl ?_); refine bx_ 3 #[.int .i64 0, .int .i64 0] 85 ?_; intro gb1003 hg w4 hbox hb; have BK1003 := am_ (hbox); have GW1003 := am_ (gg_ hg : w.heap.size ≤ gb1003); have NB1001_1003 := am_ ((by rw [hg]; exact Nat.ne_of_lt (blk_lt (g := gb1001) (o := .cells #[.int .i64 a0_0, .int .i64 a0_1] 180 (0, 0)) (vk_ BK1001)) : gb1001 ≠ gb1003)); have NB1003_1001 := am_ ((by rw [hg]; exact Nat.ne_of_gt (blk_lt (g := gb1001) (o := .cells #[.int .i64 a0_0, .int .i64 a0_1] 180 (0, 0)) (vk_ BK1001)) : gb1003 ≠ gb1001)); have NB1002_1003 := am_ ((by rw [hg]; exact Nat.ne_of_lt (blk_lt (g := gb1002) (o := .cells #[.int .i64 0, .int .i64 0] 85 (0, 0)) (vk_ BK1002)) : gb1002 ≠ gb1003)); have NB1003_1002 := am_ ((by rw [hg]; exact Nat.ne_of_gt (blk_lt (g := gb1002) (o := .cells #[.int .i64 0, .int .i64 0] 85 (0, 0)) (vk_ BK1002)) : gb1003 ≠ gb1002)); replace BK1001 := am_ (blk_below (g := gb1001) (vk_ BK1001) hb); replace BK1002 := am_ (blk_below (g := gb1002) (vk_ BK1002) hb); replace HB := am_ (below_step bg_ hb); have GE1003 := GW1003; clear hb hbox hg; have hnb5 := NB1001_1002.out; have hnc5 := NB1002_1001.out; have hnb6 := NB1001_1003.out; have hnc6 := NB1003_1001.out; have hcz7_0 := bc2_0 BK1001; have hcz7_1 := bc2_1 BK1001; have hfz7_0 := bf_ BK1001 0; have hfz7_1 := bf_ BK1001 1; have hnb8 := NB1003_1002.out; have hnc8 := NB1002_1003.out; have hcz9_0 := bc2_0 BK1003; have hcz9_1 := bc2_1 BK1003; have hfz9_0 := bf_ BK1003 0; have hfz9_1 := bf_ BK1003 1; have hcz10_0 := bc2_0 BK1002; have hcz10_1 := bc2_1 BK1002; have hfz10_0 := bf_ BK1002 0; have hfz10_1 := bf_ BK1002 1))
 refine bodyPost_ret (results_cell_row rfl _ _ gb1002 85 #[.int .i64 a0_0, .int .i64 a0_1] (0, 0) _ rfl (by (with_reducible repeat (first | refine blk_drewN ?_ _ | refine blk_drew ?_ | refine blk_alloc ?_ _)); refine blk_put (cs := #[.int .i64 a0_0, .int .i64 0]) ?_ 1 _ rfl; (with_reducible repeat (first | refine blk_drewN ?_ _ | refine blk_drew ?_ | refine blk_alloc ?_ _)); refine blk_put (cs := #[.int .i64 0, .int .i64 0]) ?_ 0 _ rfl; (with_reducible repeat (first | refine blk_drewN ?_ _ | refine blk_drew ?_ | refine blk_alloc ?_ _)); refine blk_far ?_ NB1002_1003.out _; (with_reducible repeat (first | refine blk_drewN ?_ _ | refine blk_drew ?_ | refine blk_alloc ?_ _)); refine blk_far ?_ NB1002_1003.out _; (with_reducible repeat (first | refine blk_drewN ?_ _ | refine blk_drew ?_ | refine blk_alloc ?_ _)); exact BK1002.out) Try.underlying85 rfl (by kernel_rfl)) rfl ?_
 exact ⟨rf_, bg_⟩

/-! ### laws_toSampleS: function 112 -/
def laws_toSampleS.l0 : Nat → List (S180) → List (S85) → Int → Option ((List (S85)))
 | 0, _, _, _ => none
 | k + 1, x0, x3, x4 => if x4 < (x0.length : Int) then (if 0 ≤ x4 then ((laws_toSample.f ((rd_T180 x0 x4).f0) ((rd_T180 x0 x4).f1)).bind fun bt1005 => (if x4 < (x3.length : Int) then (laws_toSampleS.l0 k x0 (x3.set (x4 : Int).toNat (⟨bt1005.1, bt1005.2⟩ : S85)) (wrap64 (x4 + 1))) else (none))) else (none)) else (some x3)
def laws_toSampleS.f (k : Nat) (l0 : List (S180)) : Option ((List (S85))) := if 0 ≤ (l0.length : Int) then (if ((l0.length : Int) : Int).toNat ≤ 17592186044416 then (laws_toSampleS.l0 k l0 (List.replicate ((l0.length : Int) : Int).toNat z85) 0) else (none)) else (none)
theorem laws_toSampleS.mono_l : ∀ k, (∀ y0 y1 y2, LeO (laws_toSampleS.l0 k y0 y1 y2) (laws_toSampleS.l0 (k + 1) y0 y1 y2))
 | 0 => fun _ _ _ r h => by simp [laws_toSampleS.l0] at h
 | k + 1 => by
  have ih0 := laws_toSampleS.mono_l k
  ·intro y0 y1 y2
   unfold laws_toSampleS.l0
   repeat' first
   | with_reducible first | exact ih0 _ _ _ | exact LeO.refl _ | exact LeO.none _ | refine LeO.ite ?_ ?_ | refine LeO.bind ?_ (fun _ => ?_)
   | exact ih0 _ _ _
   | exact LeO.none _
   | refine LeO.ite ?_ ?_
   | refine LeO.bind ?_ (fun _ => ?_)
theorem laws_toSampleS.mono : ∀ a0 k, LeO (laws_toSampleS.f k a0) (laws_toSampleS.f (k + 1) a0) := by
 intro a0 k
 have ih0 := laws_toSampleS.mono_l k
 unfold laws_toSampleS.f
 repeat' first
   | with_reducible first | exact ih0 _ _ _ | exact LeO.refl _ | exact LeO.none _ | refine LeO.ite ?_ ?_ | refine LeO.bind ?_ (fun _ => ?_)
   | exact ih0 _ _ _
   | exact LeO.none _
   | refine LeO.ite ?_ ?_
   | refine LeO.bind ?_ (fun _ => ?_)
set_option maxHeartbeats 8000000 in
set_option maxRecDepth 100000 in
theorem laws_toSampleS.calls (k : Nat) (A0 : Option Addr) (c0 : Nat) (l0 : List (S180)) (r : List (S85)) (w : World) (hr0 : Kd.C k180 w A0 l0.length l0) (hc0 : l0.length ≤ c0) (h : laws_toSampleS.f k l0 = some r) :
  Calls Try.prog 112 #[.slice A0 l0.length c0] w fun e w' => ∃ v0_ : Value, e = .returned (v0_) ∧ Kd.R k85 85 w' w.heap.size (fun _ => True) v0_ r ∧ Below w.heap.size w w' := by
 have hu180 := Try.underlying180
 have hu85 := Try.underlying85
 have HR0 := am_ hr0
 have HC0 := am_ hc0
 clear hr0 hc0
 have HB := am_ (Below.refl w.heap.size w)
 have H : (if 0 ≤ (l0.length : Int) then (if ((l0.length : Int) : Int).toNat ≤ 17592186044416 then (laws_toSampleS.l0 k l0 (List.replicate ((l0.length : Int) : Int).toNat z85) 0) else (none)) else (none)) = some r := h
 clear h
 by_cases c2 : 0 ≤ (l0.length : Int)
 ·rw [if_pos c2] at H
  have c2b0 := eq_true c2
  have c2b1 : decide (0 ≤ (l0.length : Int)) = true := decide_eq_true c2
  clear c2
  by_cases c3 : ((l0.length : Int) : Int).toNat ≤ 17592186044416
  ·rw [if_pos c3] at H
   have c3b0 := eq_true c3
   have c3b1 : decide (((l0.length : Int) : Int).toNat ≤ 17592186044416) = true := decide_eq_true c3
   clear c3
   obtain ⟨y1001, hy1001⟩ : ∃ y_ : List (S85), y_ = (List.replicate ((l0.length : Int) : Int).toNat z85) := ⟨_, rfl⟩
   replace H : (laws_toSampleS.l0 k l0 y1001 0) = some r := by first | (rw [hy1001]; with_reducible exact H) | (have H2_ := (Option.bind_some _ _).symm.trans H; rw [hy1001]; with_reducible exact H2_) | (have H2_ := (Option.bind_some _ _).symm.trans H; with_reducible exact H2_) | with_reducible exact H | (rw [hy1001]; exact H) | exact H
   have Ny1001 := am_ hy1001
   clear hy1001
   have H' := am_ H
   clear H
   go_enter Try.func112, Try.ntmps112
   go_wp2_with (first | ((with_reducible refine gate_dst (N := 7) rfl ?_); refine Kd.R_make k85 _ 85 rfl (N := 7) rfl 81 _ _ rfl (l0.length : Int) rfl rfl Try.underlying81 (.agg #[(.int .i64 0), (.int .i64 0)]) 16 info85 rfl (by decide) (by omega) z85 (ok := fun _ => True) (okp := fun _ => True) (k85_mkM _ _ _ z85 ) (fun _ hk => hk) trivial (od_) (Nat.le_trans (Nat.mul_le_mul_right _ (od_ : (l0.length : Int).toNat ≤ 17592186044416)) (by omega)) (Below.refl _ _) (Nat.le_refl _) ?_; intro v1002 w4 ho5 hb hg_ hnew_; clear hg_ hnew_; (first | rw [← Ny1001.out] at ho5 | (simp only [Int.reduceToNat] at ho5; rw [← Ny1001.out] at ho5)); have HO1003 := am_ (Kd.R_lower ho5 (below_size bl_)); replace HB := am_ (below_step bl_ hb); clear hb ho5))
   go_loopg [4] k (fun kq v4 w' => ∃ (x3_1 : List (S85)) (x4_1 : Int), v4 = .int .i64 x4_1 ∧ Aside0 (laws_toSampleS.l0 kq l0 x3_1 x4_1 = some r) ∧ Aside0 (kq ≤ k) ∧ Aside0 (Kd.R k85 85 w' w.heap.size (fun _ => True) v1002 x3_1) ∧ Aside0 (Below w.heap.size w w'))
   case atStart => exact ⟨(y1001), (0), rs_, H', ⟨Nat.le_refl _⟩, ⟨ro_ HO1003⟩, ⟨bl_⟩⟩
   case round =>
    clear H'
    try clear c1
    try clear c2
    try clear c2b0
    try clear c2b1
    try clear p2
    try clear c3
    try clear c3b0
    try clear c3b1
    obtain ⟨x3_1, x4_1, rfl, HA, HK1, HO_3, HB⟩ := hrel
    cases gk with
    | zero => exact absurd HA.out (by simp [laws_toSampleS.l0])
    | succ k1 =>
     have H := HA.out
     clear HA
     simp only [laws_toSampleS.l0] at H
     by_cases c6 : x4_1 < (l0.length : Int)
     ·rw [if_pos c6] at H
      have c6b0 : decide (x4_1 < (l0.length : Int)) = true := decide_eq_true c6
      clear c6
      by_cases c7 : 0 ≤ x4_1
      ·rw [if_pos c7] at H
       have c7b0 : decide (0 ≤ x4_1) = true := decide_eq_true c7
       clear c7
       replace H := Option.bind_eq_some_iff.mp H
       obtain ⟨⟨t1005, t1006⟩, A80, H⟩ := H
       replace H : (if x4_1 < (x3_1.length : Int) then (laws_toSampleS.l0 k1 l0 (x3_1.set (x4_1 : Int).toNat (⟨t1005, t1006⟩ : S85)) (wrap64 (x4_1 + 1))) else (none)) = some r := H
       have A8 := am_ A80
       clear A80
       by_cases c9 : x4_1 < (x3_1.length : Int)
       ·rw [if_pos c9] at H
        have c9b0 : decide (x4_1 < (x3_1.length : Int)) = true := decide_eq_true c9
        clear c9
        obtain ⟨y1007, hy1007⟩ : ∃ y_ : List (S85), y_ = (x3_1.set (x4_1 : Int).toNat (⟨t1005, t1006⟩ : S85)) := ⟨_, rfl⟩
        replace H : (laws_toSampleS.l0 k1 l0 y1007 (wrap64 (x4_1 + 1))) = some r := by first | (rw [hy1007]; with_reducible exact H) | (have H2_ := (Option.bind_some _ _).symm.trans H; rw [hy1007]; with_reducible exact H2_) | (have H2_ := (Option.bind_some _ _).symm.trans H; with_reducible exact H2_) | with_reducible exact H | (rw [hy1007]; exact H) | exact H
        have Ny1007 := am_ hy1007
        clear hy1007
        have H' := am_ H
        clear H
        have p1004 : 0 ≤ (x4_1 : Int) := od_
        have q1004 : x4_1 < (l0.length : Int) := od_
        obtain ⟨ad1004, e1004, hx1004_0, hx1004_1⟩ := at_T180 HR0.out x4_1 p1004 q1004
        cases e1004
        replace hx1004_0 := kp_ HB hx1004_0
        replace hx1004_1 := kp_ HB hx1004_1
        replace p1004 := eq_true p1004
        replace q1004 := eq_true q1004
        go_wp2_with (first | ((with_reducible refine gate_callee (f := 152) rfl ?_); refine goesL_ (some 20) rfl rfl Try.func152 (by kernel_rfl) rfl #[.agg #[.int .i64 ((rd_T180 l0 x4_1).f0), .int .i64 ((rd_T180 l0 x4_1).f1)]] rfl ag_ ?_; (with_reducible refine (laws_toSample.calls ((rd_T180 l0 x4_1).f0) ((rd_T180 l0 x4_1).f1) t1005 t1006 _ A8.out).mono ?_); rintro e w11 ⟨rfl, hb⟩; refine ⟨_, rfl, ?_⟩; replace HO_3 := am_ (Kd.R_below (ro_ HO_3) hb); replace HB := am_ (below_step bl_ hb); (try clear hb); (try clear hb2); (try clear hk); (try clear hi); have p10 : 0 ≤ (x4_1 : Int) := od_; have q10 : (x4_1 : Int) < ((x3_1.length : Int) : Int) := od_; obtain ⟨go10, co10, eo10, gb10, gl10, cl10, HG10⟩ := Kd.R_form HO_3.out (by omega); (first | cases eo10 | (injection eo10 with ea_ en_ ec_; (first | subst ea_ | (injection ea_ with ea_; subst ea_)); subst ec_; clear en_)); have GB10 := am_ gb10; have GG10 := am_ HG10; clear gb10 gl10 HG10; obtain ⟨ce10, hcl10, hM10, hcc10, hfr10⟩ := Kd.R_elem HO_3.out z85 (x4_1 : Int) p10 q10; obtain rfl := k85_openM hM10; have hx10_0 : w11.cell? ⟨go10, (x4_1 : Int).toNat * 2, none⟩ = some (.int .i64 ((rd_T85 x3_1 x4_1).f0)) := hcc10 0 _ rfl; have hx10_1 : w11.cell? ⟨go10, (x4_1 : Int).toNat * 2 + 1, none⟩ = some (.int .i64 ((rd_T85 x3_1 x4_1).f1)) := hcc10 1 _ rfl; have hf10_0 : w11.frozen? ⟨go10, (x4_1 : Int).toNat * 2, none⟩ = false := hfr10 0; have hf10_1 : w11.frozen? ⟨go10, (x4_1 : Int).toNat * 2 + 1, none⟩ = false := hfr10 1; clear hcl10 hcc10 hfr10 hM10; replace p10 := eq_true p10; replace q10 := eq_true q10; have HX12 := am_ (show Kd.R k85 85 w11 w.heap.size (fun _ => True) (.slice (some ⟨go10, 0, none⟩) x3_1.length co10) x3_1 from (ro_ HO_3)); obtain ⟨ce12, hcl12, hM12, hcc12, hfr12⟩ := Kd.R_elem HX12.out z85 (x4_1 : Int) (od_) (by have h_ : (x4_1 : Int) < ((x3_1.length : Int) : Int) := od_; first | exact h_ | (have e_ := (Kd.R_reads' HO_3.out).1; omega) | simpa using h_); obtain rfl := k85_openM hM12; have HP12 := Kd.R_seg HX12.out (x4_1 : Int) (od_) (by have h_ : (x4_1 : Int) < ((x3_1.length : Int) : Int) := od_; first | exact h_ | (have e_ := (Kd.R_reads' HO_3.out).1; omega) | simpa using h_) (seg := [.int .i64 t1005, .int .i64 t1006]) (j := 0) hcl12 hcc12 (show 2 ≤ 2 from by decide) (x' := (⟨t1005, t1006⟩ : S85)) (k85_mkM _ _ _ (⟨t1005, t1006⟩ : S85) ) (fun _ hk => hk); have hx12_0 := hcc12 0 _ rfl; (try simp only [show (k85).sz = 2 from rfl, Nat.mul_one, Nat.add_zero] at hx12_0); have hf12_0 := hfr12 0; (try simp only [show (k85).sz = 2 from rfl, Nat.mul_one, Nat.add_zero] at hf12_0); have hx12_1 := hcc12 1 _ rfl; (try simp only [show (k85).sz = 2 from rfl, Nat.mul_one, Nat.add_zero] at hx12_1); have hf12_1 := hfr12 1; (try simp only [show (k85).sz = 2 from rfl, Nat.mul_one, Nat.add_zero] at hf12_1); clear hcl12 hcc12 hfr12 hM12) | ((with_reducible refine gate_store (t := 85) (p := 21) rfl ?_); refine store_event (t := 85) (p := 21) (v := ?vo_w13) (w1 := ((w11.setCell ⟨go10, (x4_1 : Int).toNat * 2, none⟩ (.int .i64 t1005)).setCell ⟨go10, (x4_1 : Int).toNat * 2 + 1, none⟩ (.int .i64 t1006))) ?hg ?ho ?hn ?hr ?_; (case ho => rfl); (case hg => rfl); (case hn => rfl); (case hr => first | (go_simp; done) | (go_simp; rfl) | ((try (obtain ⟨_, _, e_⟩ := Kd.R_slice HO1003.out; subst e_)); go_simp; first | done | rfl)); intro w13 hw; have hg : w11.grownBy w13 (some go10) := (by rw [hw]; exact HP12.2); have hp_ : Kd.R k85 85 w13 w.heap.size (fun _ => True) (.slice (some ⟨go10, 0, none⟩) x3_1.length co10) y1007 := (by rw [hw, Ny1007.out]; exact HP12.1); clear HP12; replace HO_3 := am_ (hp_); replace HB := am_ ((by rw [hw]; exact below_set (below_set (HB.out) GB10.out) GB10.out : Below w.heap.size w w13)); clear hg hw hp_))
        go_roundg k1
        case measure => have := HK1.out; omega
        case rel => exact ⟨(y1007), (wrap64 (x4_1 + 1)), rs_, H', ⟨by have := HK1.out; omega⟩, ⟨ro_ HO_3⟩, ⟨bl_⟩⟩
       ·rw [if_neg c9] at H
        exact absurd H (by simp)
      ·rw [if_neg c7] at H
       exact absurd H (by simp)
     ·rw [if_neg c6] at H
      have c6b0 : decide (x4_1 < (l0.length : Int)) = false := decide_eq_false c6
      clear c6
      obtain rfl := Option.some.inj H
      go_wp2
      go_ret
      exact ⟨_, rf_, by (with_reducible repeat (first | apply Kd.R_alloc | apply Kd.R_drewN | apply Kd.R_drew)); exact HO_3.out, bl_⟩
  ·rw [if_neg c3] at H
   exact absurd H (by simp)
 ·rw [if_neg c2] at H
  exact absurd H (by simp)

/-! ### laws_toSeries: function 60 -/
def laws_toSeries.f (k : Nat) (l0_0 : List (S105)) (l0_1 : List (S180)) : Option ((List (S108)) × (List (S85))) := (laws_toLabelS.f k l0_0).bind fun t1004 => ((laws_toSampleS.f k l0_1).bind fun t1007 => (some (t1004, t1007)))
theorem laws_toSeries.mono : ∀ a0 a1 k, LeO (laws_toSeries.f k a0 a1) (laws_toSeries.f (k + 1) a0 a1) := by
 intro a0 a1 k
 unfold laws_toSeries.f
 repeat' first
   | with_reducible first | exact laws_toLabelS.mono _ _ | exact laws_toSampleS.mono _ _ | exact LeO.refl _ | exact LeO.none _ | refine LeO.ite ?_ ?_ | refine LeO.bind ?_ (fun _ => ?_)
   | exact laws_toLabelS.mono _ _
   | exact laws_toSampleS.mono _ _
   | exact LeO.none _
   | refine LeO.ite ?_ ?_
   | refine LeO.bind ?_ (fun _ => ?_)
set_option maxHeartbeats 8000000 in
set_option maxRecDepth 100000 in
theorem laws_toSeries.calls (k : Nat) (A0_0 : Option Addr) (c0_0 : Nat) (l0_0 : List (S105)) (A0_1 : Option Addr) (c0_1 : Nat) (l0_1 : List (S180)) (r1 : List (S108)) (r2 : List (S85)) (w : World) (hr0_0 : Kd.C k105 w A0_0 l0_0.length l0_0) (hc0_0 : l0_0.length ≤ c0_0) (hr0_1 : Kd.C k180 w A0_1 l0_1.length l0_1) (hc0_1 : l0_1.length ≤ c0_1) (h : laws_toSeries.f k l0_0 l0_1 = some (r1, r2)) :
  Calls Try.prog 60 #[.agg #[.slice A0_0 l0_0.length c0_0, .slice A0_1 l0_1.length c0_1]] w fun e w' => ∃ v0_ v1_ : Value, e = .returned (.agg #[v0_, v1_]) ∧ Kd.R k108 108 w' w.heap.size (fun _ => True) v0_ r1 ∧ Kd.R k85 85 w' w.heap.size (fun _ => True) v1_ r2 ∧ Below w.heap.size w w' := by
 have hu98 := Try.underlying98
 have hu83 := Try.underlying83
 have HR0_0 := am_ hr0_0
 have HC0_0 := am_ hc0_0
 clear hr0_0 hc0_0
 have HR0_1 := am_ hr0_1
 have HC0_1 := am_ hc0_1
 clear hr0_1 hc0_1
 have HB := am_ (Below.refl w.heap.size w)
 have H : ((laws_toLabelS.f k l0_0).bind fun t1004 => ((laws_toSampleS.f k l0_1).bind fun t1007 => (some (t1004, t1007)))) = some (r1, r2) := h
 clear h
 replace H := Option.bind_eq_some_iff.mp H
 obtain ⟨t1004, A20, H⟩ := H
 replace H : ((laws_toSampleS.f k l0_1).bind fun t1007 => (some (t1004, t1007))) = some (r1, r2) := H
 have A2 := am_ A20
 clear A20
 replace H := Option.bind_eq_some_iff.mp H
 obtain ⟨t1007, A30, H⟩ := H
 replace H : (some (t1004, t1007)) = some (r1, r2) := H
 have A3 := am_ A30
 clear A30
 simp only [Option.some.injEq, Prod.mk.injEq] at H
 obtain ⟨rfl, rfl⟩ := H
 go_enter Try.func60, Try.ntmps60
 go_wp2_with (first | ((with_reducible refine gate_dst (N := 1) rfl ?_); refine bx_ 1 #[.slice A0_0 l0_0.length c0_0, .slice A0_1 l0_1.length c0_1] 98 ?_; intro gb1001 hg w4 hbox hb; have BK1001 := am_ (hbox); have GW1001 := am_ (gs_ hg : w.heap.size ≤ gb1001); replace HB := am_ (below_step bl_ hb); have GE1001 := GW1001; clear hb hbox hg) | ((with_reducible refine gate_dst (N := 2) rfl ?_); refine bx_ 2 #[.slice none 0 0, .slice none 0 0] 83 ?_; intro gb1002 hg w5 hbox hb; have BK1002 := am_ (hbox); have GW1002 := am_ (gg_ hg : w.heap.size ≤ gb1002); have NB1001_1002 := am_ ((by rw [hg]; exact Nat.ne_of_lt (blk_lt (g := gb1001) (o := .cells #[.slice A0_0 l0_0.length c0_0, .slice A0_1 l0_1.length c0_1] 98 (0, 0)) (vk_ BK1001)) : gb1001 ≠ gb1002)); have NB1002_1001 := am_ ((by rw [hg]; exact Nat.ne_of_gt (blk_lt (g := gb1001) (o := .cells #[.slice A0_0 l0_0.length c0_0, .slice A0_1 l0_1.length c0_1] 98 (0, 0)) (vk_ BK1001)) : gb1002 ≠ gb1001)); replace BK1001 := am_ (blk_below (g := gb1001) (vk_ BK1001) hb); replace HB := am_ (below_step bg_ hb); have GE1002 := GW1002; clear hb hbox hg) | ((with_reducible refine gate_dst (N := 3) rfl ?_); refine bx_ 3 #[.slice none 0 0, .slice none 0 0] 83 ?_; intro gb1003 hg w6 hbox hb; have BK1003 := am_ (hbox); have GW1003 := am_ (gg_ hg : w.heap.size ≤ gb1003); have NB1001_1003 := am_ ((by rw [hg]; exact Nat.ne_of_lt (blk_lt (g := gb1001) (o := .cells #[.slice A0_0 l0_0.length c0_0, .slice A0_1 l0_1.length c0_1] 98 (0, 0)) (vk_ BK1001)) : gb1001 ≠ gb1003)); have NB1003_1001 := am_ ((by rw [hg]; exact Nat.ne_of_gt (blk_lt (g := gb1001) (o := .cells #[.slice A0_0 l0_0.length c0_0, .slice A0_1 l0_1.length c0_1] 98 (0, 0)) (vk_ BK1001)) : gb1003 ≠ gb1001)); have NB1002_1003 := am_ ((by rw [hg]; exact Nat.ne_of_lt (blk_lt (g := gb1002) (o := .cells #[.slice none 0 0, .slice none 0 0] 83 (0, 0)) (vk_ BK1002)) : gb1002 ≠ gb1003)); have NB1003_1002 := am_ ((by rw [hg]; exact Nat.ne_of_gt (blk_lt (g := gb1002) (o := .cells #[.slice none 0 0, .slice none 0 0] 83 (0, 0)) (vk_ BK1002)) : gb1003 ≠ gb1002)); replace BK1001 := am_ (blk_below (g := gb1001) (vk_ BK1001) hb); replace BK1002 := am_ (blk_below (g := gb1002) (vk_ BK1002) hb); replace HB := am_ (below_step bg_ hb); have GE1003 := GW1003; clear hb hbox hg; have hnb7 := NB1001_1002.out; have hnc7 := NB1002_1001.out; have hnb8 := NB1001_1003.out; have hnc8 := NB1003_1001.out; have hcz9_0 := bc2_0 BK1001; have hcz9_1 := bc2_1 BK1001; have hfz9_0 := bf_ BK1001 0; have hfz9_1 := bf_ BK1001 1) | ((with_reducible refine gate_callee (f := 24) rfl ?_); refine goesL_ (some 6) rfl rfl Try.func24 (by kernel_rfl) rfl #[.slice A0_0 l0_0.length c0_0] rfl ag_ ?_; (with_reducible refine (laws_toLabelS.calls k _ _ l0_0 t1004 _ ?side1 ?side2 A2.out).mono ?_); (case side1 => exact cc_ (Kd.C_below HR0_0.out HB.out)); (case side2 => exact HC0_0.out); rintro e w10 ⟨v1005, rfl, ho0, hb⟩; refine ⟨_, rfl, ?_⟩; have HO1006 := am_ (Kd.R_lower ho0 (below_size bg_)); replace BK1001 := am_ (blk_below (g := gb1001) (vk_ BK1001) hb); replace BK1002 := am_ (blk_below (g := gb1002) (vk_ BK1002) hb); replace BK1003 := am_ (blk_below (g := gb1003) (vk_ BK1003) hb); replace HB := am_ (below_step bg_ hb); (try clear hb); (try clear hb2); (try clear hk); (try clear hi); (try clear ho0); obtain ⟨Ao11, co11, eo11⟩ := Kd.R_slice HO1006.out; subst eo11; have hnb12 := NB1003_1002.out; have hnc12 := NB1002_1003.out; have hcz13_0 := bc2_0 BK1003; have hcz13_1 := bc2_1 BK1003; have hfz13_0 := bf_ BK1003 0; have hfz13_1 := bf_ BK1003 1; have hcz14_0 := bc2_0 BK1001; have hcz14_1 := bc2_1 BK1001; have hfz14_0 := bf_ BK1001 0; have hfz14_1 := bf_ BK1001 1) | ((with_reducible refine gate_callee (f := 112) rfl ?_); refine goesL_ (some 10) rfl rfl Try.func112 (by kernel_rfl) rfl #[.slice A0_1 l0_1.length c0_1] rfl ag_ ?_; (with_reducible refine (laws_toSampleS.calls k _ _ l0_1 t1007 _ ?side1 ?side2 A3.out).mono ?_); (case side1 => exact Kd.C_below HR0_1.out bg_); (case side2 => exact HC0_1.out); rintro e w15 ⟨v1008, rfl, ho0, hb⟩; refine ⟨_, rfl, ?_⟩; have HO1009 := am_ (Kd.R_lower ho0 (below_size bg_)); replace HO1006 := am_ (Kd.R_below (by (with_reducible repeat (first | apply Kd.R_alloc | apply Kd.R_drewN | apply Kd.R_drew)); exact (Kd.R_mono (Kd.R_far (p := ⟨gb1003, 0, none⟩) (Kd.R_types HO1006.out BK1003.out (by decide)) (fun _ hk => hk.2) (.slice Ao11 t1004.length co11)) (fun _ h_ => h_.1))) hb); replace BK1001 := am_ (blk_below (g := gb1001) (o := .cells #[.slice A0_0 l0_0.length c0_0, .slice A0_1 l0_1.length c0_1] 98 (0, 0)) (by (with_reducible repeat (first | refine blk_drewN ?_ _ | refine blk_drew ?_ | refine blk_alloc ?_ _)); refine blk_far ?_ NB1001_1003.out _; (with_reducible repeat (first | refine blk_drewN ?_ _ | refine blk_drew ?_ | refine blk_alloc ?_ _)); exact BK1001.out) hb); replace BK1002 := am_ (blk_below (g := gb1002) (o := .cells #[.slice none 0 0, .slice none 0 0] 83 (0, 0)) (by (with_reducible repeat (first | refine blk_drewN ?_ _ | refine blk_drew ?_ | refine blk_alloc ?_ _)); refine blk_far ?_ NB1002_1003.out _; (with_reducible repeat (first | refine blk_drewN ?_ _ | refine blk_drew ?_ | refine blk_alloc ?_ _)); exact BK1002.out) hb); replace BK1003 := am_ (blk_below (g := gb1003) (o := .cells #[.slice Ao11 t1004.length co11, .slice none 0 0] 83 (0, 0)) (by (with_reducible repeat (first | refine blk_drewN ?_ _ | refine blk_drew ?_ | refine blk_alloc ?_ _)); refine blk_put (cs := #[.slice none 0 0, .slice none 0 0]) ?_ 0 _ rfl; (with_reducible repeat (first | refine blk_drewN ?_ _ | refine blk_drew ?_ | refine blk_alloc ?_ _)); exact BK1003.out) hb); replace HB := am_ (below_step bg_ hb); (try clear hb); (try clear hb2); (try clear hk); (try clear hi); (try clear ho0); obtain ⟨Ao16, co16, eo16⟩ := Kd.R_slice HO1009.out; subst eo16; have hcz17_0 := bc2_0 BK1003; have hcz17_1 := bc2_1 BK1003; have hfz17_0 := bf_ BK1003 0; have hfz17_1 := bf_ BK1003 1; have hcz18_0 := bc2_0 BK1002; have hcz18_1 := bc2_1 BK1002; have hfz18_0 := bf_ BK1002 0; have hfz18_1 := bf_ BK1002 1))
 refine bodyPost_ret (results_cell_row rfl _ _ gb1002 83 #[.slice Ao11 t1004.length co11, .slice Ao16 t1007.length co16] (0, 0) _ rfl (by (with_reducible repeat (first | refine blk_drewN ?_ _ | refine blk_drew ?_ | refine blk_alloc ?_ _)); refine blk_put (cs := #[.slice Ao11 t1004.length co11, .slice none 0 0]) ?_ 1 _ rfl; (with_reducible repeat (first | refine blk_drewN ?_ _ | refine blk_drew ?_ | refine blk_alloc ?_ _)); refine blk_put (cs := #[.slice none 0 0, .slice none 0 0]) ?_ 0 _ rfl; (with_reducible repeat (first | refine blk_drewN ?_ _ | refine blk_drew ?_ | refine blk_alloc ?_ _)); refine blk_far ?_ NB1002_1003.out _; (with_reducible repeat (first | refine blk_drewN ?_ _ | refine blk_drew ?_ | refine blk_alloc ?_ _)); exact BK1002.out) Try.underlying83 rfl (by kernel_rfl)) rfl ?_
 exact ⟨_, _, rf_, by (with_reducible repeat (first | apply Kd.R_alloc | apply Kd.R_drewN | apply Kd.R_drew)); exact Kd.R_mono (Kd.R_far (p := ⟨gb1002, 1, none⟩) (Kd.R_far (p := ⟨gb1002, 0, none⟩) (Kd.R_far (p := ⟨gb1003, 1, none⟩) (Kd.R_types (Kd.R_types HO1006.out BK1003.out (by decide)) BK1002.out (by decide)) (fun _ hk => hk.1.2) (.slice Ao16 t1007.length co16)) (fun _ hk => hk.2) (.slice Ao11 t1004.length co11)) (fun _ hk => hk.2) (.slice Ao16 t1007.length co16)) (fun _ hk => trivial), by (with_reducible repeat (first | apply Kd.R_alloc | apply Kd.R_drewN | apply Kd.R_drew)); exact Kd.R_mono (Kd.R_far (p := ⟨gb1002, 1, none⟩) (Kd.R_far (p := ⟨gb1002, 0, none⟩) (Kd.R_far (p := ⟨gb1003, 1, none⟩) (Kd.R_types (Kd.R_types HO1009.out BK1003.out (by decide)) BK1002.out (by decide)) (fun _ hk => hk.1.2) (.slice Ao16 t1007.length co16)) (fun _ hk => hk.2) (.slice Ao11 t1004.length co11)) (fun _ hk => hk.2) (.slice Ao16 t1007.length co16)) (fun _ hk => trivial), bg_⟩

end Go.Proofs.Ytknlgignjbghkaa.Pr
