/- Functions of the given program as plain Lean functions, and that the machine's calls come to them; written by a program of this session; no condition but those that each theorem states. -/
import Derived.Test.YtknlgignjbghkaaPrx0
import Derived.Test.YtknlgignjbghkaaPrxg5da37n1
import Derived.Test.YtknlgignjbghkaaPrxg61164n1
import Derived.Test.YtknlgignjbghkaaPrxg97d69n1
namespace Go.Proofs.Ytknlgignjbghkaa.Pr
open Go.RowKit Go.Proofs.YtknlgignjbghkaaW.PrintWords Go.Proofs.YtknlgignjbghkaaW.PrintLast Go.Proofs.YtknlgignjbghkaaW.PrintMore
attribute [local go_sem] max2_int min2_int max_two min_two max_three min_three max_four min_four   -- for this text's walks alone
set_option linter.unusedVariables false
set_option linter.unusedSimpArgs false

/-! ### laws_szStone: function 89 -/
def laws_szStone.f (k : Nat) (l0_0 : List (S105)) (a0_1 : Int) (a0_2 : Int) (a1 : Int) : Option (Int) := (laws_szLabelS.f k l0_0 a1).bind fun t1002 => (if t1002 < 0 then (some (-1)) else (some t1002))
theorem laws_szStone.mono : ∀ a0 a1 a2 a3 k, LeO (laws_szStone.f k a0 a1 a2 a3) (laws_szStone.f (k + 1) a0 a1 a2 a3) := by
 intro a0 a1 a2 a3 k
 unfold laws_szStone.f
 repeat' first
   | with_reducible first | exact laws_szLabelS.mono _ _ _ | exact LeO.refl _ | exact LeO.none _ | refine LeO.ite ?_ ?_ | refine LeO.bind ?_ (fun _ => ?_)
   | exact laws_szLabelS.mono _ _ _
   | exact LeO.none _
   | refine LeO.ite ?_ ?_
   | refine LeO.bind ?_ (fun _ => ?_)
set_option maxHeartbeats 8000000 in
set_option maxRecDepth 100000 in
theorem laws_szStone.calls (k : Nat) (A0_0 : Option Addr) (c0_0 : Nat) (l0_0 : List (S105)) (a0_1 : Int) (a0_2 : Int) (a1 : Int) (r : Int) (w : World) (hr0_0 : Kd.C k105 w A0_0 l0_0.length l0_0) (hc0_0 : l0_0.length ≤ c0_0) (h : laws_szStone.f k l0_0 a0_1 a0_2 a1 = some r) :
  Calls Try.prog 89 #[.agg #[.slice A0_0 l0_0.length c0_0, .int .i64 a0_1, .int .i64 a0_2], .int .i64 a1] w fun e w' => e = .returned (.int .i64 r) ∧ Below w.heap.size w w' := by
 have hu130 := Try.underlying130
 have HR0_0 := am_ hr0_0
 have HC0_0 := am_ hc0_0
 clear hr0_0 hc0_0
 have HB := am_ (Below.refl w.heap.size w)
 have H : ((laws_szLabelS.f k l0_0 a1).bind fun t1002 => (if t1002 < 0 then (some (-1)) else (some t1002))) = some r := h
 clear h
 replace H := Option.bind_eq_some_iff.mp H
 obtain ⟨t1002, A30, H⟩ := H
 replace H : (if t1002 < 0 then (some (-1)) else (some t1002)) = some r := H
 have A3 := am_ A30
 clear A30
 by_cases c4 : t1002 < 0
 ·rw [if_pos c4] at H
  have c4b0 : decide (t1002 < 0) = true := decide_eq_true c4
  clear c4
  obtain rfl := Option.some.inj H
  go_enter Try.func89, Try.ntmps89
  go_wp2_with (first | ((with_reducible refine gate_dst (N := 2) rfl ?_); refine bx_ 2 #[.slice A0_0 l0_0.length c0_0, .int .i64 a0_1, .int .i64 a0_2] 130 ?_; intro gb1001 hg w5 hbox hb; have BK1001 := am_ (hbox); have GW1001 := am_ (gs_ hg : w.heap.size ≤ gb1001); replace HB := am_ (below_step bl_ hb); have GE1001 := GW1001; clear hb hbox hg; have hcz6_0 := bc3_0 BK1001; have hcz6_1 := bc3_1 BK1001; have hcz6_2 := bc3_2 BK1001; have hfz6_0 := bf_ BK1001 0; have hfz6_1 := bf_ BK1001 1; have hfz6_2 := bf_ BK1001 2) | ((with_reducible refine gate_callee (f := 21) rfl ?_); refine goesL_ (some 8) rfl rfl Try.func21 (by kernel_rfl) rfl #[.slice A0_0 l0_0.length c0_0, .int .i64 a1] rfl ag_ ?_; (with_reducible refine (laws_szLabelS.calls k _ _ l0_0 a1 t1002 _ ?side1 ?side2 A3.out).mono ?_); (case side1 => exact cc_ (Kd.C_below HR0_0.out HB.out)); (case side2 => exact HC0_0.out); rintro e w7 ⟨rfl, hb⟩; refine ⟨_, rfl, ?_⟩; replace BK1001 := am_ (blk_below (g := gb1001) (vk_ BK1001) hb); replace HB := am_ (below_step bg_ hb); (try clear hb); (try clear hb2); (try clear hk); (try clear hi)))
  go_ret
  exact ⟨rf_, bg_⟩
 ·rw [if_neg c4] at H
  have c4b0 : decide (t1002 < 0) = false := decide_eq_false c4
  clear c4
  obtain rfl := Option.some.inj H
  go_enter Try.func89, Try.ntmps89
  go_wp2_with (first | ((with_reducible refine gate_dst (N := 2) rfl ?_); refine bx_ 2 #[.slice A0_0 l0_0.length c0_0, .int .i64 a0_1, .int .i64 a0_2] 130 ?_; intro gb1001 hg w8 hbox hb; have BK1001 := am_ (hbox); have GW1001 := am_ (gs_ hg : w.heap.size ≤ gb1001); replace HB := am_ (below_step bl_ hb); have GE1001 := GW1001; clear hb hbox hg; have hcz9_0 := bc3_0 BK1001; have hcz9_1 := bc3_1 BK1001; have hcz9_2 := bc3_2 BK1001; have hfz9_0 := bf_ BK1001 0; have hfz9_1 := bf_ BK1001 1; have hfz9_2 := bf_ BK1001 2) | ((with_reducible refine gate_callee (f := 21) rfl ?_); refine goesL_ (some 8) rfl rfl Try.func21 (by kernel_rfl) rfl #[.slice A0_0 l0_0.length c0_0, .int .i64 a1] rfl ag_ ?_; (with_reducible refine (laws_szLabelS.calls k _ _ l0_0 a1 t1002 _ ?side1 ?side2 A3.out).mono ?_); (case side1 => exact cc_ (Kd.C_below HR0_0.out HB.out)); (case side2 => exact HC0_0.out); rintro e w10 ⟨rfl, hb⟩; refine ⟨_, rfl, ?_⟩; replace BK1001 := am_ (blk_below (g := gb1001) (vk_ BK1001) hb); replace HB := am_ (below_step bg_ hb); (try clear hb); (try clear hb2); (try clear hk); (try clear hi)))
  go_ret
  exact ⟨rf_, bg_⟩

/-! ### laws_szStoneS: function 45 -/
def laws_szStoneS.l0 : Nat → List (S130) → Int → Int → Option (Int)
 | 0, _, _, _ => none
 | k + 1, x0, x1, x5 => if x5 < (x0.length : Int) then (if 0 ≤ x5 then ((laws_szStone.f k ((rd_T130 x0 x5).f0) ((rd_T130 x0 x5).f1) ((rd_T130 x0 x5).f2) x1).bind fun t1002 => (if t1002 < 0 then (some (-1)) else (laws_szStoneS.l0 k x0 t1002 (wrap64 (x5 + 1))))) else (none)) else (some x1)
def laws_szStoneS.f (k : Nat) (l0 : List (S130)) (a1 : Int) : Option (Int) := if (wrap64 (a1 - (l0.length : Int))) < 0 then (some (-1)) else (laws_szStoneS.l0 k l0 (wrap64 (a1 - (l0.length : Int))) 0)
theorem laws_szStoneS.mono_l : ∀ k, (∀ y0 y1 y2, LeO (laws_szStoneS.l0 k y0 y1 y2) (laws_szStoneS.l0 (k + 1) y0 y1 y2))
 | 0 => fun _ _ _ r h => by simp [laws_szStoneS.l0] at h
 | k + 1 => by
  have ih0 := laws_szStoneS.mono_l k
  ·intro y0 y1 y2
   unfold laws_szStoneS.l0
   repeat' first
   | with_reducible first | exact ih0 _ _ _ | exact laws_szStone.mono _ _ _ _ _ | exact LeO.refl _ | exact LeO.none _ | refine LeO.ite ?_ ?_ | refine LeO.bind ?_ (fun _ => ?_)
   | exact ih0 _ _ _
   | exact laws_szStone.mono _ _ _ _ _
   | exact LeO.none _
   | refine LeO.ite ?_ ?_
   | refine LeO.bind ?_ (fun _ => ?_)
theorem laws_szStoneS.mono : ∀ a0 a1 k, LeO (laws_szStoneS.f k a0 a1) (laws_szStoneS.f (k + 1) a0 a1) := by
 intro a0 a1 k
 have ih0 := laws_szStoneS.mono_l k
 unfold laws_szStoneS.f
 repeat' first
   | with_reducible first | exact ih0 _ _ _ | exact laws_szStone.mono _ _ _ _ _ | exact LeO.refl _ | exact LeO.none _ | refine LeO.ite ?_ ?_ | refine LeO.bind ?_ (fun _ => ?_)
   | exact ih0 _ _ _
   | exact laws_szStone.mono _ _ _ _ _
   | exact LeO.none _
   | refine LeO.ite ?_ ?_
   | refine LeO.bind ?_ (fun _ => ?_)
set_option maxHeartbeats 8000000 in
set_option maxRecDepth 100000 in
theorem laws_szStoneS.calls (k : Nat) (A0 : Option Addr) (c0 : Nat) (l0 : List (S130)) (a1 : Int) (r : Int) (w : World) (hr0 : Kd.C k130 w A0 l0.length l0) (hc0 : l0.length ≤ c0) (h : laws_szStoneS.f k l0 a1 = some r) :
  Calls Try.prog 45 #[.slice A0 l0.length c0, .int .i64 a1] w fun e w' => e = .returned (.int .i64 r) ∧ Below w.heap.size w w' := by
 have hu130 := Try.underlying130
 have HR0 := am_ hr0
 have HC0 := am_ hc0
 clear hr0 hc0
 have HB := am_ (Below.refl w.heap.size w)
 have H : (if (wrap64 (a1 - (l0.length : Int))) < 0 then (some (-1)) else (laws_szStoneS.l0 k l0 (wrap64 (a1 - (l0.length : Int))) 0)) = some r := h
 clear h
 by_cases c3 : (wrap64 (a1 - (l0.length : Int))) < 0
 ·rw [if_pos c3] at H
  have c3b0 : decide ((wrap64 (a1 - (l0.length : Int))) < 0) = true := decide_eq_true c3
  clear c3
  obtain rfl := Option.some.inj H
  go_enter Try.func45, Try.ntmps45
  go_wp2
  go_ret
  exact ⟨rf_, bl_⟩
 ·rw [if_neg c3] at H
  have c3b0 : decide ((wrap64 (a1 - (l0.length : Int))) < 0) = false := decide_eq_false c3
  clear c3
  have H' := am_ H
  clear H
  go_enter Try.func45, Try.ntmps45
  go_wp2
  go_loopg [1, 5] k (fun kq v1 v5 w' => ∃ (x1_1 : Int) (x5_1 : Int), v1 = .int .i64 x1_1 ∧ v5 = .int .i64 x5_1 ∧ Aside0 (laws_szStoneS.l0 kq l0 x1_1 x5_1 = some r) ∧ Aside0 (kq ≤ k) ∧ Aside0 (Below w.heap.size w w'))
  case atStart => exact ⟨(wrap64 (a1 - (l0.length : Int))), (0), rs_, rs_, H', ⟨Nat.le_refl _⟩, ⟨bl_⟩⟩
  case round =>
   clear H'
   try clear p2
   try clear c3
   try clear c3b0
   obtain ⟨x1_1, x5_1, rfl, rfl, HA, HK1, HB⟩ := hrel
   cases gk with
   | zero => exact absurd HA.out (by simp [laws_szStoneS.l0])
   | succ k1 =>
    have H := HA.out
    clear HA
    simp only [laws_szStoneS.l0] at H
    by_cases c4 : x5_1 < (l0.length : Int)
    ·rw [if_pos c4] at H
     have c4b0 : decide (x5_1 < (l0.length : Int)) = true := decide_eq_true c4
     clear c4
     by_cases c5 : 0 ≤ x5_1
     ·rw [if_pos c5] at H
      have c5b0 : decide (0 ≤ x5_1) = true := decide_eq_true c5
      clear c5
      replace H := Option.bind_eq_some_iff.mp H
      obtain ⟨t1002, A60, H⟩ := H
      replace H : (if t1002 < 0 then (some (-1)) else (laws_szStoneS.l0 k1 l0 t1002 (wrap64 (x5_1 + 1)))) = some r := H
      have A6 := am_ A60
      clear A60
      by_cases c7 : t1002 < 0
      ·rw [if_pos c7] at H
       have c7b0 : decide (t1002 < 0) = true := decide_eq_true c7
       clear c7
       obtain rfl := Option.some.inj H
       have p1001 : 0 ≤ (x5_1 : Int) := od_
       have q1001 : x5_1 < (l0.length : Int) := od_
       obtain ⟨ad1001, A1001_0, c1001_0, e1001, hx1001_0, hx1001_1, hx1001_2, hl1001_0, hi1001_0⟩ := at_T130 HR0.out x5_1 p1001 q1001
       cases e1001
       replace hx1001_0 := kp_ HB hx1001_0
       replace hx1001_1 := kp_ HB hx1001_1
       replace hx1001_2 := kp_ HB hx1001_2
       have HR1001_0 := am_ hi1001_0
       have HC1001_0 := am_ hl1001_0
       clear hi1001_0 hl1001_0
       replace p1001 := eq_true p1001
       replace q1001 := eq_true q1001
       go_wp2_with (first | ((with_reducible refine gate_callee (f := 89) rfl ?_); refine goesL_ (some 23) rfl rfl Try.func89 (by kernel_rfl) rfl #[.agg #[.slice A1001_0 ((rd_T130 l0 x5_1).f0).length c1001_0, .int .i64 ((rd_T130 l0 x5_1).f1), .int .i64 ((rd_T130 l0 x5_1).f2)], .int .i64 x1_1] rfl ag_ ?_; (with_reducible refine (laws_szStone.calls k1 _ _ ((rd_T130 l0 x5_1).f0) ((rd_T130 l0 x5_1).f1) ((rd_T130 l0 x5_1).f2) x1_1 t1002 _ ?side1 ?side2 A6.out).mono ?_); (case side1 => exact cc_ (Kd.C_below HR1001_0.out HB.out)); (case side2 => exact HC1001_0.out); rintro e w8 ⟨rfl, hb⟩; refine ⟨_, rfl, ?_⟩; replace HB := am_ (below_step bl_ hb); (try clear hb); (try clear hb2); (try clear hk); (try clear hi)))
       go_ret
       exact ⟨rf_, bl_⟩
      ·rw [if_neg c7] at H
       have c7b0 : decide (t1002 < 0) = false := decide_eq_false c7
       clear c7
       have H' := am_ H
       clear H
       have p1001 : 0 ≤ (x5_1 : Int) := od_
       have q1001 : x5_1 < (l0.length : Int) := od_
       obtain ⟨ad1001, A1001_0, c1001_0, e1001, hx1001_0, hx1001_1, hx1001_2, hl1001_0, hi1001_0⟩ := at_T130 HR0.out x5_1 p1001 q1001
       cases e1001
       replace hx1001_0 := kp_ HB hx1001_0
       replace hx1001_1 := kp_ HB hx1001_1
       replace hx1001_2 := kp_ HB hx1001_2
       have HR1001_0 := am_ hi1001_0
       have HC1001_0 := am_ hl1001_0
       clear hi1001_0 hl1001_0
       replace p1001 := eq_true p1001
       replace q1001 := eq_true q1001
       go_wp2_with (first | ((with_reducible refine gate_callee (f := 89) rfl ?_); refine goesL_ (some 23) rfl rfl Try.func89 (by kernel_rfl) rfl #[.agg #[.slice A1001_0 ((rd_T130 l0 x5_1).f0).length c1001_0, .int .i64 ((rd_T130 l0 x5_1).f1), .int .i64 ((rd_T130 l0 x5_1).f2)], .int .i64 x1_1] rfl ag_ ?_; (with_reducible refine (laws_szStone.calls k1 _ _ ((rd_T130 l0 x5_1).f0) ((rd_T130 l0 x5_1).f1) ((rd_T130 l0 x5_1).f2) x1_1 t1002 _ ?side1 ?side2 A6.out).mono ?_); (case side1 => exact cc_ (Kd.C_below HR1001_0.out HB.out)); (case side2 => exact HC1001_0.out); rintro e w9 ⟨rfl, hb⟩; refine ⟨_, rfl, ?_⟩; replace HB := am_ (below_step bl_ hb); (try clear hb); (try clear hb2); (try clear hk); (try clear hi)))
       go_roundg k1
       case measure => have := HK1.out; omega
       case rel => exact ⟨(t1002), (wrap64 (x5_1 + 1)), rs_, rs_, H', ⟨by have := HK1.out; omega⟩, ⟨bl_⟩⟩
     ·rw [if_neg c5] at H
      exact absurd H (by simp)
    ·rw [if_neg c4] at H
     have c4b0 : decide (x5_1 < (l0.length : Int)) = false := decide_eq_false c4
     clear c4
     obtain rfl := Option.some.inj H
     go_wp2
     go_ret
     exact ⟨rf_, bl_⟩

/-! ### laws_szBlock: function 8 -/
def laws_szBlock.f (k : Nat) (a0_0 : Int) (a0_1 : Int) (a0_2 : Int) (l0_3 : List (S98)) (l0_4 : List (S130)) (a1 : Int) : Option (Int) := (laws_szSeriesS.f k l0_3 a1).bind fun t1002 => (if t1002 < 0 then (some (-1)) else ((laws_szStoneS.f k l0_4 t1002).bind fun t1003 => (if t1003 < 0 then (some (-1)) else (some t1003))))
theorem laws_szBlock.mono : ∀ a0 a1 a2 a3 a4 a5 k, LeO (laws_szBlock.f k a0 a1 a2 a3 a4 a5) (laws_szBlock.f (k + 1) a0 a1 a2 a3 a4 a5) := by
 intro a0 a1 a2 a3 a4 a5 k
 unfold laws_szBlock.f
 repeat' first
   | with_reducible first | exact laws_szSeriesS.mono _ _ _ | exact laws_szStoneS.mono _ _ _ | exact LeO.refl _ | exact LeO.none _ | refine LeO.ite ?_ ?_ | refine LeO.bind ?_ (fun _ => ?_)
   | exact laws_szSeriesS.mono _ _ _
   | exact laws_szStoneS.mono _ _ _
   | exact LeO.none _
   | refine LeO.ite ?_ ?_
   | refine LeO.bind ?_ (fun _ => ?_)
set_option maxHeartbeats 8000000 in
set_option maxRecDepth 100000 in
theorem laws_szBlock.calls (k : Nat) (a0_0 : Int) (a0_1 : Int) (a0_2 : Int) (A0_3 : Option Addr) (c0_3 : Nat) (l0_3 : List (S98)) (A0_4 : Option Addr) (c0_4 : Nat) (l0_4 : List (S130)) (a1 : Int) (r : Int) (w : World) (hr0_3 : Kd.C k98 w A0_3 l0_3.length l0_3) (hc0_3 : l0_3.length ≤ c0_3) (hr0_4 : Kd.C k130 w A0_4 l0_4.length l0_4) (hc0_4 : l0_4.length ≤ c0_4) (h : laws_szBlock.f k a0_0 a0_1 a0_2 l0_3 l0_4 a1 = some r) :
  Calls Try.prog 8 #[.agg #[.int .i64 a0_0, .int .i64 a0_1, .int .i64 a0_2, .slice A0_3 l0_3.length c0_3, .slice A0_4 l0_4.length c0_4], .int .i64 a1] w fun e w' => e = .returned (.int .i64 r) ∧ Below w.heap.size w w' := by
 have hu25 := Try.underlying25
 have HR0_3 := am_ hr0_3
 have HC0_3 := am_ hc0_3
 clear hr0_3 hc0_3
 have HR0_4 := am_ hr0_4
 have HC0_4 := am_ hc0_4
 clear hr0_4 hc0_4
 have HB := am_ (Below.refl w.heap.size w)
 have H : ((laws_szSeriesS.f k l0_3 a1).bind fun t1002 => (if t1002 < 0 then (some (-1)) else ((laws_szStoneS.f k l0_4 t1002).bind fun t1003 => (if t1003 < 0 then (some (-1)) else (some t1003))))) = some r := h
 clear h
 replace H := Option.bind_eq_some_iff.mp H
 obtain ⟨t1002, A30, H⟩ := H
 replace H : (if t1002 < 0 then (some (-1)) else ((laws_szStoneS.f k l0_4 t1002).bind fun t1003 => (if t1003 < 0 then (some (-1)) else (some t1003)))) = some r := H
 have A3 := am_ A30
 clear A30
 by_cases c4 : t1002 < 0
 ·rw [if_pos c4] at H
  have c4b0 : decide (t1002 < 0) = true := decide_eq_true c4
  clear c4
  obtain rfl := Option.some.inj H
  go_enter Try.func8, Try.ntmps8
  go_wp2_with (first | ((with_reducible refine gate_dst (N := 2) rfl ?_); refine bx_ 2 #[.int .i64 a0_0, .int .i64 a0_1, .int .i64 a0_2, .slice A0_3 l0_3.length c0_3, .slice A0_4 l0_4.length c0_4] 25 ?_; intro gb1001 hg w5 hbox hb; have BK1001 := am_ (hbox); have GW1001 := am_ (gs_ hg : w.heap.size ≤ gb1001); replace HB := am_ (below_step bl_ hb); have GE1001 := GW1001; clear hb hbox hg; have hcz6_0 := bc5_0 BK1001; have hcz6_1 := bc5_1 BK1001; have hcz6_2 := bc5_2 BK1001; have hcz6_3 := bc5_3 BK1001; have hcz6_4 := bc5_4 BK1001; have hfz6_0 := bf_ BK1001 0; have hfz6_1 := bf_ BK1001 1; have hfz6_2 := bf_ BK1001 2; have hfz6_3 := bf_ BK1001 3; have hfz6_4 := bf_ BK1001 4) | ((with_reducible refine gate_callee (f := 13) rfl ?_); refine goesL_ (some 8) rfl rfl Try.func13 (by kernel_rfl) rfl #[.slice A0_3 l0_3.length c0_3, .int .i64 a1] rfl ag_ ?_; (with_reducible refine (laws_szSeriesS.calls k _ _ l0_3 a1 t1002 _ ?side1 ?side2 A3.out).mono ?_); (case side1 => exact cc_ (Kd.C_below HR0_3.out HB.out)); (case side2 => exact HC0_3.out); rintro e w7 ⟨rfl, hb⟩; refine ⟨_, rfl, ?_⟩; replace BK1001 := am_ (blk_below (g := gb1001) (vk_ BK1001) hb); replace HB := am_ (below_step bg_ hb); (try clear hb); (try clear hb2); (try clear hk); (try clear hi)))
  go_ret
  exact ⟨rf_, bg_⟩
 ·rw [if_neg c4] at H
  have c4b0 : decide (t1002 < 0) = false := decide_eq_false c4
  clear c4
  replace H := Option.bind_eq_some_iff.mp H
  obtain ⟨t1003, A80, H⟩ := H
  replace H : (if t1003 < 0 then (some (-1)) else (some t1003)) = some r := H
  have A8 := am_ A80
  clear A80
  by_cases c9 : t1003 < 0
  ·rw [if_pos c9] at H
   have c9b0 : decide (t1003 < 0) = true := decide_eq_true c9
   clear c9
   obtain rfl := Option.some.inj H
   go_enter Try.func8, Try.ntmps8
   go_wp2_with (first | ((with_reducible refine gate_dst (N := 2) rfl ?_); refine bx_ 2 #[.int .i64 a0_0, .int .i64 a0_1, .int .i64 a0_2, .slice A0_3 l0_3.length c0_3, .slice A0_4 l0_4.length c0_4] 25 ?_; intro gb1001 hg w10 hbox hb; have BK1001 := am_ (hbox); have GW1001 := am_ (gs_ hg : w.heap.size ≤ gb1001); replace HB := am_ (below_step bl_ hb); have GE1001 := GW1001; clear hb hbox hg; have hcz11_0 := bc5_0 BK1001; have hcz11_1 := bc5_1 BK1001; have hcz11_2 := bc5_2 BK1001; have hcz11_3 := bc5_3 BK1001; have hcz11_4 := bc5_4 BK1001; have hfz11_0 := bf_ BK1001 0; have hfz11_1 := bf_ BK1001 1; have hfz11_2 := bf_ BK1001 2; have hfz11_3 := bf_ BK1001 3; have hfz11_4 := bf_ BK1001 4) | ((with_reducible refine gate_callee (f := 13) rfl ?_); refine goesL_ (some 8) rfl rfl Try.func13 (by kernel_rfl) rfl #[.slice A0_3 l0_3.length c0_3, .int .i64 a1] rfl ag_ ?_; (with_reducible refine (laws_szSeriesS.calls k _ _ l0_3 a1 t1002 _ ?side1 ?side2 A3.out).mono ?_); (case side1 => exact cc_ (Kd.C_below HR0_3.out HB.out)); (case side2 => exact HC0_3.out); rintro e w12 ⟨rfl, hb⟩; refine ⟨_, rfl, ?_⟩; replace BK1001 := am_ (blk_below (g := gb1001) (vk_ BK1001) hb); replace HB := am_ (below_step bg_ hb); (try clear hb); (try clear hb2); (try clear hk); (try clear hi); have hcz13_0 := bc5_0 BK1001; have hcz13_1 := bc5_1 BK1001; have hcz13_2 := bc5_2 BK1001; have hcz13_3 := bc5_3 BK1001; have hcz13_4 := bc5_4 BK1001; have hfz13_0 := bf_ BK1001 0; have hfz13_1 := bf_ BK1001 1; have hfz13_2 := bf_ BK1001 2; have hfz13_3 := bf_ BK1001 3; have hfz13_4 := bf_ BK1001 4) | ((with_reducible refine gate_callee (f := 45) rfl ?_); refine goesL_ (some 14) rfl rfl Try.func45 (by kernel_rfl) rfl #[.slice A0_4 l0_4.length c0_4, .int .i64 t1002] rfl ag_ ?_; (with_reducible refine (laws_szStoneS.calls k _ _ l0_4 t1002 t1003 _ ?side1 ?side2 A8.out).mono ?_); (case side1 => exact cc_ (Kd.C_below HR0_4.out HB.out)); (case side2 => exact HC0_4.out); rintro e w14 ⟨rfl, hb⟩; refine ⟨_, rfl, ?_⟩; replace BK1001 := am_ (blk_below (g := gb1001) (vk_ BK1001) hb); replace HB := am_ (below_step bg_ hb); (try clear hb); (try clear hb2); (try clear hk); (try clear hi)))
   go_ret
   exact ⟨rf_, bg_⟩
  ·rw [if_neg c9] at H
   have c9b0 : decide (t1003 < 0) = false := decide_eq_false c9
   clear c9
   obtain rfl := Option.some.inj H
   go_enter Try.func8, Try.ntmps8
   go_wp2_with (first | ((with_reducible refine gate_dst (N := 2) rfl ?_); refine bx_ 2 #[.int .i64 a0_0, .int .i64 a0_1, .int .i64 a0_2, .slice A0_3 l0_3.length c0_3, .slice A0_4 l0_4.length c0_4] 25 ?_; intro gb1001 hg w15 hbox hb; have BK1001 := am_ (hbox); have GW1001 := am_ (gs_ hg : w.heap.size ≤ gb1001); replace HB := am_ (below_step bl_ hb); have GE1001 := GW1001; clear hb hbox hg; have hcz16_0 := bc5_0 BK1001; have hcz16_1 := bc5_1 BK1001; have hcz16_2 := bc5_2 BK1001; have hcz16_3 := bc5_3 BK1001; have hcz16_4 := bc5_4 BK1001; have hfz16_0 := bf_ BK1001 0; have hfz16_1 := bf_ BK1001 1; have hfz16_2 := bf_ BK1001 2; have hfz16_3 := bf_ BK1001 3; have hfz16_4 := bf_ BK1001 4) | ((with_reducible refine gate_callee (f := 13) rfl ?_); refine goesL_ (some 8) rfl rfl Try.func13 (by kernel_rfl) rfl #[.slice A0_3 l0_3.length c0_3, .int .i64 a1] rfl ag_ ?_; (with_reducible refine (laws_szSeriesS.calls k _ _ l0_3 a1 t1002 _ ?side1 ?side2 A3.out).mono ?_); (case side1 => exact cc_ (Kd.C_below HR0_3.out HB.out)); (case side2 => exact HC0_3.out); rintro e w17 ⟨rfl, hb⟩; refine ⟨_, rfl, ?_⟩; replace BK1001 := am_ (blk_below (g := gb1001) (vk_ BK1001) hb); replace HB := am_ (below_step bg_ hb); (try clear hb); (try clear hb2); (try clear hk); (try clear hi); have hcz18_0 := bc5_0 BK1001; have hcz18_1 := bc5_1 BK1001; have hcz18_2 := bc5_2 BK1001; have hcz18_3 := bc5_3 BK1001; have hcz18_4 := bc5_4 BK1001; have hfz18_0 := bf_ BK1001 0; have hfz18_1 := bf_ BK1001 1; have hfz18_2 := bf_ BK1001 2; have hfz18_3 := bf_ BK1001 3; have hfz18_4 := bf_ BK1001 4) | ((with_reducible refine gate_callee (f := 45) rfl ?_); refine goesL_ (some 14) rfl rfl Try.func45 (by kernel_rfl) rfl #[.slice A0_4 l0_4.length c0_4, .int .i64 t1002] rfl ag_ ?_; (with_reducible refine (laws_szStoneS.calls k _ _ l0_4 t1002 t1003 _ ?side1 ?side2 A8.out).mono ?_); (case side1 => exact cc_ (Kd.C_below HR0_4.out HB.out)); (case side2 => exact HC0_4.out); rintro e w19 ⟨rfl, hb⟩; refine ⟨_, rfl, ?_⟩; replace BK1001 := am_ (blk_below (g := gb1001) (vk_ BK1001) hb); replace HB := am_ (below_step bg_ hb); (try clear hb); (try clear hb2); (try clear hk); (try clear hi)))
   go_ret
   exact ⟨rf_, bg_⟩

/-! ### spec_l9Has: function 49 -/
def spec_l9Has.f (k : Nat) (l0 : List (S83)) (l1 : List (S108)) : Option (Bool) := (spec_l7Place.f k l0 l1).bind fun bt1001 => (some bt1001.2)
theorem spec_l9Has.mono : ∀ a0 a1 k, LeO (spec_l9Has.f k a0 a1) (spec_l9Has.f (k + 1) a0 a1) := by
 intro a0 a1 k
 unfold spec_l9Has.f
 repeat' first
   | with_reducible first | exact spec_l7Place.mono _ _ _ | exact LeO.refl _ | exact LeO.none _ | refine LeO.ite ?_ ?_ | refine LeO.bind ?_ (fun _ => ?_)
   | exact spec_l7Place.mono _ _ _
   | exact LeO.none _
   | refine LeO.ite ?_ ?_
   | refine LeO.bind ?_ (fun _ => ?_)
set_option maxHeartbeats 8000000 in
set_option maxRecDepth 100000 in
theorem spec_l9Has.calls (k : Nat) (A0 : Option Addr) (c0 : Nat) (l0 : List (S83)) (A1 : Option Addr) (c1 : Nat) (l1 : List (S108)) (r : Bool) (w : World) (hr0 : Kd.C k83 w A0 l0.length l0) (hc0 : l0.length ≤ c0) (hr1 : Kd.C k108 w A1 l1.length l1) (hc1 : l1.length ≤ c1) (h : spec_l9Has.f k l0 l1 = some r) :
  Calls Try.prog 49 #[.slice A0 l0.length c0, .slice A1 l1.length c1] w fun e w' => e = .returned (.bool r) ∧ Below w.heap.size w w' := by
 have HR0 := am_ hr0
 have HC0 := am_ hc0
 clear hr0 hc0
 have HR1 := am_ hr1
 have HC1 := am_ hc1
 clear hr1 hc1
 have HB := am_ (Below.refl w.heap.size w)
 have H : ((spec_l7Place.f k l0 l1).bind fun bt1001 => (some bt1001.2)) = some r := h
 clear h
 replace H := Option.bind_eq_some_iff.mp H
 obtain ⟨⟨t1001, t1002⟩, A30, H⟩ := H
 replace H : (some t1002) = some r := H
 have A3 := am_ A30
 clear A30
 obtain rfl := Option.some.inj H
 go_enter Try.func49, Try.ntmps49
 go_wp2_with (first | ((with_reducible refine gate_callee (f := 95) rfl ?_); refine goesL_ (some 10) rfl rfl Try.func95 (by kernel_rfl) rfl #[.slice A0 l0.length c0, .slice A1 l1.length c1] rfl ag_ ?_; (with_reducible refine (spec_l7Place.calls k _ _ l0 _ _ l1 t1001 t1002 _ ?side1 ?side2 ?side3 ?side4 A3.out).mono ?_); (case side1 => repeat (first | exact HR0.out | (with_reducible refine Kd.C_alloc ?_ _) | (with_reducible refine Kd.C_drewN ?_ _) | (with_reducible refine Kd.C_drew ?_))); (case side2 => exact HC0.out); (case side3 => repeat (first | exact HR1.out | (with_reducible refine Kd.C_alloc ?_ _) | (with_reducible refine Kd.C_drewN ?_ _) | (with_reducible refine Kd.C_drew ?_))); (case side4 => exact HC1.out); rintro e w4 ⟨rfl, hb⟩; refine ⟨_, rfl, ?_⟩; replace HB := am_ (below_step bl_ hb); (try clear hb); (try clear hb2); (try clear hk); (try clear hi)))
 go_ret
 exact ⟨rf_, bl_⟩

end Go.Proofs.Ytknlgignjbghkaa.Pr
