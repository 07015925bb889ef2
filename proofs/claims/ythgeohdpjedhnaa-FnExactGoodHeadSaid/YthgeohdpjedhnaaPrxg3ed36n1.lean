/- Functions of the given program as plain Lean functions, and that the machine's calls come to them; written by a program of this session; no condition but those that each theorem states. -/
import Derived.Test.YthgeohdpjedhnaaPrx0
import Derived.Test.YthgeohdpjedhnaaPrxga12edn1
import Derived.Test.YthgeohdpjedhnaaPrxga12edn2
import Derived.Test.YthgeohdpjedhnaaPrxga12edn3
namespace Go.Proofs.Ythgeohdpjedhnaa.Pr
open Go.RowKit Go.Proofs.YthgeohdpjedhnaaW.PrintWords Go.Proofs.YthgeohdpjedhnaaW.PrintLast Go.Proofs.YthgeohdpjedhnaaW.PrintMore
attribute [local go_sem] max2_int min2_int max_two min_two max_three min_three max_four min_four   -- for this text's walks alone
set_option linter.unusedVariables false
set_option linter.unusedSimpArgs false

/-! ### laws_szHead: function 48 -/
def laws_szHead.f (k : Nat) (a0_0 : Int) (a0_1 : Int) (a0_2 : Int) (l0_3 : List (S100)) (a1 : Int) : Option (Int) := (laws_szSeriesS.f k l0_3 a1).bind fun t1002 => (if t1002 < 0 then (some (-1)) else (some t1002))
theorem laws_szHead.mono : ∀ a0 a1 a2 a3 a4 k, LeO (laws_szHead.f k a0 a1 a2 a3 a4) (laws_szHead.f (k + 1) a0 a1 a2 a3 a4) := by
 intro a0 a1 a2 a3 a4 k
 unfold laws_szHead.f
 repeat' first
   | with_reducible first | exact laws_szSeriesS.mono _ _ _ | exact LeO.refl _ | exact LeO.none _ | refine LeO.ite ?_ ?_ | refine LeO.bind ?_ (fun _ => ?_)
   | exact laws_szSeriesS.mono _ _ _
   | exact LeO.none _
   | refine LeO.ite ?_ ?_
   | refine LeO.bind ?_ (fun _ => ?_)
set_option maxHeartbeats 8000000 in
set_option maxRecDepth 100000 in
theorem laws_szHead.calls (k : Nat) (a0_0 : Int) (a0_1 : Int) (a0_2 : Int) (A0_3 : Option Addr) (c0_3 : Nat) (l0_3 : List (S100)) (a1 : Int) (r : Int) (w : World) (hr0_3 : Kd.C k100 w A0_3 l0_3.length l0_3) (hc0_3 : l0_3.length ≤ c0_3) (h : laws_szHead.f k a0_0 a0_1 a0_2 l0_3 a1 = some r) :
  Calls Try.prog 48 #[.agg #[.int .i64 a0_0, .int .i64 a0_1, .int .i64 a0_2, .slice A0_3 l0_3.length c0_3], .int .i64 a1] w fun e w' => e = .returned (.int .i64 r) ∧ Below w.heap.size w w' := by
 have hu61 := Try.underlying61
 have HR0_3 := am_ hr0_3
 have HC0_3 := am_ hc0_3
 clear hr0_3 hc0_3
 have HB := am_ (Below.refl w.heap.size w)
 have H : ((laws_szSeriesS.f k l0_3 a1).bind fun t1002 => (if t1002 < 0 then (some (-1)) else (some t1002))) = some r := h
 clear h
 replace H := Option.bind_eq_some_iff.mp H
 obtain ⟨t1002, A30, H⟩ := H
 replace H : (if t1002 < 0 then (some (-1)) else (some t1002)) = some r := H
 have A3 := am_ A30
 clear A30
 by_cases c4 : t1002 < 0
 ·rw [if_pos c4] at H
  have c4b0 : decide (t1002 < 0) = true := decide_eq_true c4
  clear c4
  obtain rfl := Option.some.inj H
  go_enter Try.func48, Try.ntmps48
  go_wp2_with (first | ((with_reducible refine gate_dst (N := 2) rfl ?_); refine box_event ?hg (N := 2) ?hd (cs := #[.int .i64 a0_0, .int .i64 a0_1, .int .i64 a0_2, .slice A0_3 l0_3.length c0_3]) (t := 61) ?hr ?_; (case hd => rfl); (case hg => rfl); (case hr => first | (go_simp; done) | (go_simp; rfl)); intro gb1001 hg w5 hbox hb; have n0_ := am_ (below_step bl_ hb); have n1_ := am_ (hbox); have n2_ := am_ (gs_ hg : w.heap.size ≤ gb1001); have n3_ := n2_; clear HB; have HB := n0_; have BK1001 := n1_; have GW1001 := n2_; have GE1001 := n3_; clear n0_ n1_ n2_ n3_; clear hb hbox hg; have hcz6_0 := bc4_0 BK1001; have hcz6_1 := bc4_1 BK1001; have hcz6_2 := bc4_2 BK1001; have hcz6_3 := bc4_3 BK1001; have hfz6_0 := bf_ BK1001 0; have hfz6_1 := bf_ BK1001 1; have hfz6_2 := bf_ BK1001 2; have hfz6_3 := bf_ BK1001 3) | ((with_reducible refine gate_callee (f := 41) rfl ?_); refine goesL_ (some 8) rfl rfl Try.func41 (by kernel_rfl) rfl #[.slice A0_3 l0_3.length c0_3, .int .i64 a1] rfl ag_ ?_; (with_reducible refine (laws_szSeriesS.calls k _ _ l0_3 a1 t1002 _ ?side1 ?side2 A3.out).mono ?_); (case side1 => exact cc_ (Kd.C_below HR0_3.out HB.out)); (case side2 => exact HC0_3.out); rintro e w7 ⟨rfl, hb⟩; refine ⟨_, rfl, ?_⟩; have n0_ := am_ (blk_below (g := gb1001) (vk_ BK1001) hb); have n1_ := am_ (below_step bg_ hb); clear BK1001; clear HB; have BK1001 := n0_; have HB := n1_; clear n0_ n1_; (try clear hb); (try clear hb2); (try clear hk); (try clear hi)))
  go_ret
  exact ⟨rf_, bg_⟩
 ·rw [if_neg c4] at H
  have c4b0 : decide (t1002 < 0) = false := decide_eq_false c4
  clear c4
  obtain rfl := Option.some.inj H
  go_enter Try.func48, Try.ntmps48
  go_wp2_with (first | ((with_reducible refine gate_dst (N := 2) rfl ?_); refine box_event ?hg (N := 2) ?hd (cs := #[.int .i64 a0_0, .int .i64 a0_1, .int .i64 a0_2, .slice A0_3 l0_3.length c0_3]) (t := 61) ?hr ?_; (case hd => rfl); (case hg => rfl); (case hr => first | (go_simp; done) | (go_simp; rfl)); intro gb1001 hg w8 hbox hb; have n0_ := am_ (below_step bl_ hb); have n1_ := am_ (hbox); have n2_ := am_ (gs_ hg : w.heap.size ≤ gb1001); have n3_ := n2_; clear HB; have HB := n0_; have BK1001 := n1_; have GW1001 := n2_; have GE1001 := n3_; clear n0_ n1_ n2_ n3_; clear hb hbox hg; have hcz9_0 := bc4_0 BK1001; have hcz9_1 := bc4_1 BK1001; have hcz9_2 := bc4_2 BK1001; have hcz9_3 := bc4_3 BK1001; have hfz9_0 := bf_ BK1001 0; have hfz9_1 := bf_ BK1001 1; have hfz9_2 := bf_ BK1001 2; have hfz9_3 := bf_ BK1001 3) | ((with_reducible refine gate_callee (f := 41) rfl ?_); refine goesL_ (some 8) rfl rfl Try.func41 (by kernel_rfl) rfl #[.slice A0_3 l0_3.length c0_3, .int .i64 a1] rfl ag_ ?_; (with_reducible refine (laws_szSeriesS.calls k _ _ l0_3 a1 t1002 _ ?side1 ?side2 A3.out).mono ?_); (case side1 => exact cc_ (Kd.C_below HR0_3.out HB.out)); (case side2 => exact HC0_3.out); rintro e w10 ⟨rfl, hb⟩; refine ⟨_, rfl, ?_⟩; have n0_ := am_ (blk_below (g := gb1001) (vk_ BK1001) hb); have n1_ := am_ (below_step bg_ hb); clear BK1001; clear HB; have BK1001 := n0_; have HB := n1_; clear n0_ n1_; (try clear hb); (try clear hb2); (try clear hk); (try clear hi)))
  go_ret
  exact ⟨rf_, bg_⟩

/-! ### spec_GoodHead: function 49 -/
mutual
def spec_GoodHead.j0 : Nat → Bool → Int → Int → Int → List (S103) → Option (Bool)
 | 0, _, _, _, _, _ => none
 | k + 1, x42, x1002000, x1002001, x1002002, x1002003 => if x42 = true then (some false) else (spec_GoodHead.l0 k x1002003 (x1002003.length : Int) 0 x1002000 x1002001 x1002002 x1002003)
def spec_GoodHead.l0 : Nat → List (S103) → Int → Int → Int → Int → Int → List (S103) → Option (Bool)
 | 0, _, _, _, _, _, _, _ => none
 | k + 1, x44, x45, x46, x1002000, x1002001, x1002002, x1002003 => if x46 < x45 then (if 0 ≤ x46 then (if x46 < (x44.length : Int) then (if 0 ≤ (wrap64 ((((rd_T103 x44 x46).f1).length : Int) - 1)) then (if (wrap64 ((((rd_T103 x44 x46).f1).length : Int) - 1)) < (((rd_T103 x44 x46).f1).length : Int) then (if ((rd_T115 ((rd_T103 x44 x46).f1) (wrap64 ((((rd_T103 x44 x46).f1).length : Int) - 1))).f0) > x1002002 then (some false) else (spec_GoodHead.l0 k x44 x45 (wrap64 (x46 + 1)) x1002000 x1002001 x1002002 x1002003)) else (none)) else (none)) else (none)) else (none)) else (some true)
end
def spec_GoodHead.f (k : Nat) (a0_0 : Int) (a0_1 : Int) (a0_2 : Int) (l0_3 : List (S103)) : Option (Bool) := (spec_l3Time.f a0_0).bind fun t1002 => (if t1002 = true then (if a0_1 < 0 then (spec_GoodHead.j0 k true a0_0 a0_1 a0_2 l0_3) else (if a0_1 > 200 then (spec_GoodHead.j0 k true a0_0 a0_1 a0_2 l0_3) else ((spec_GoodSeries.f k l0_3).bind fun t1003 => (if t1003 = true then (if (l0_3.length : Int) > a0_1 then (spec_GoodHead.j0 k true a0_0 a0_1 a0_2 l0_3) else (if a0_2 < (-1) then (spec_GoodHead.j0 k true a0_0 a0_1 a0_2 l0_3) else (spec_GoodHead.j0 k (decide (a0_2 > 1000000000000)) a0_0 a0_1 a0_2 l0_3))) else (spec_GoodHead.j0 k true a0_0 a0_1 a0_2 l0_3))))) else (spec_GoodHead.j0 k true a0_0 a0_1 a0_2 l0_3))
theorem spec_GoodHead.mono_l : ∀ k, (∀ y0 y1 y2 y3 y4, LeO (spec_GoodHead.j0 k y0 y1 y2 y3 y4) (spec_GoodHead.j0 (k + 1) y0 y1 y2 y3 y4)) ∧ (∀ y0 y1 y2 y3 y4 y5 y6, LeO (spec_GoodHead.l0 k y0 y1 y2 y3 y4 y5 y6) (spec_GoodHead.l0 (k + 1) y0 y1 y2 y3 y4 y5 y6))
 | 0 => ⟨fun _ _ _ _ _ r h => by simp [spec_GoodHead.j0] at h, fun _ _ _ _ _ _ _ r h => by simp [spec_GoodHead.l0] at h⟩
 | k + 1 => by
  obtain ⟨ih0, ih1⟩ := spec_GoodHead.mono_l k
  refine ⟨?_, ?_⟩
  ·intro y0 y1 y2 y3 y4
   unfold spec_GoodHead.j0
   repeat' first
   | with_reducible first | exact ih0 _ _ _ _ _ | exact ih1 _ _ _ _ _ _ _ | exact spec_GoodSeries.mono _ _ | exact LeO.refl _ | exact LeO.none _ | refine LeO.ite ?_ ?_ | refine LeO.bind ?_ (fun _ => ?_)
   | exact ih0 _ _ _ _ _
   | exact ih1 _ _ _ _ _ _ _
   | exact spec_GoodSeries.mono _ _
   | exact LeO.none _
   | refine LeO.ite ?_ ?_
   | refine LeO.bind ?_ (fun _ => ?_)
  ·intro y0 y1 y2 y3 y4 y5 y6
   unfold spec_GoodHead.l0
   repeat' first
   | with_reducible first | exact ih0 _ _ _ _ _ | exact ih1 _ _ _ _ _ _ _ | exact spec_GoodSeries.mono _ _ | exact LeO.refl _ | exact LeO.none _ | refine LeO.ite ?_ ?_ | refine LeO.bind ?_ (fun _ => ?_)
   | exact ih0 _ _ _ _ _
   | exact ih1 _ _ _ _ _ _ _
   | exact spec_GoodSeries.mono _ _
   | exact LeO.none _
   | refine LeO.ite ?_ ?_
   | refine LeO.bind ?_ (fun _ => ?_)
theorem spec_GoodHead.mono : ∀ a0 a1 a2 a3 k, LeO (spec_GoodHead.f k a0 a1 a2 a3) (spec_GoodHead.f (k + 1) a0 a1 a2 a3) := by
 intro a0 a1 a2 a3 k
 obtain ⟨ih0, ih1⟩ := spec_GoodHead.mono_l k
 unfold spec_GoodHead.f
 repeat' first
   | with_reducible first | exact ih0 _ _ _ _ _ | exact ih1 _ _ _ _ _ _ _ | exact spec_GoodSeries.mono _ _ | exact LeO.refl _ | exact LeO.none _ | refine LeO.ite ?_ ?_ | refine LeO.bind ?_ (fun _ => ?_)
   | exact ih0 _ _ _ _ _
   | exact ih1 _ _ _ _ _ _ _
   | exact spec_GoodSeries.mono _ _
   | exact LeO.none _
   | refine LeO.ite ?_ ?_
   | refine LeO.bind ?_ (fun _ => ?_)
set_option maxHeartbeats 8000000 in
set_option maxRecDepth 100000 in
theorem spec_GoodHead.calls (k : Nat) (a0_0 : Int) (a0_1 : Int) (a0_2 : Int) (A0_3 : Option Addr) (c0_3 : Nat) (l0_3 : List (S103)) (r : Bool) (w : World) (hr0_3 : Kd.C k103 w A0_3 l0_3.length l0_3) (hc0_3 : l0_3.length ≤ c0_3) (h : spec_GoodHead.f k a0_0 a0_1 a0_2 l0_3 = some r) :
  Calls Try.prog 49 #[.agg #[.int .i64 a0_0, .int .i64 a0_1, .int .i64 a0_2, .slice A0_3 l0_3.length c0_3]] w fun e w' => e = .returned (.bool r) ∧ Below w.heap.size w w' := by
 have hu65 := Try.underlying65
 have hu103 := Try.underlying103
 have HR0_3 := am_ hr0_3
 have HC0_3 := am_ hc0_3
 clear hr0_3 hc0_3
 have HB := am_ (Below.refl w.heap.size w)
 have H : ((spec_l3Time.f a0_0).bind fun t1002 => (if t1002 = true then (if a0_1 < 0 then (spec_GoodHead.j0 k true a0_0 a0_1 a0_2 l0_3) else (if a0_1 > 200 then (spec_GoodHead.j0 k true a0_0 a0_1 a0_2 l0_3) else ((spec_GoodSeries.f k l0_3).bind fun t1003 => (if t1003 = true then (if (l0_3.length : Int) > a0_1 then (spec_GoodHead.j0 k true a0_0 a0_1 a0_2 l0_3) else (if a0_2 < (-1) then (spec_GoodHead.j0 k true a0_0 a0_1 a0_2 l0_3) else (spec_GoodHead.j0 k (decide (a0_2 > 1000000000000)) a0_0 a0_1 a0_2 l0_3))) else (spec_GoodHead.j0 k true a0_0 a0_1 a0_2 l0_3))))) else (spec_GoodHead.j0 k true a0_0 a0_1 a0_2 l0_3))) = some r := h
 clear h
 have HC2 := am_ H
 clear H
 go_enter Try.func49, Try.ntmps49
 go_upto_region 1 with (first | ((with_reducible refine gate_dst (N := 1) rfl ?_); (try (refine gate_guard (by rfl) ?_; dsimp only)); refine box_event ?hg (N := 1) ?hd (cs := #[.int .i64 a0_0, .int .i64 a0_1, .int .i64 a0_2, .slice A0_3 l0_3.length c0_3]) (t := 65) ?hr ?_; (case hd => rfl); (case hg => rfl); (case hr => first | (go_simp; done) | (go_simp; rfl)); intro gb1001 hg w3 hbox hb; have n0_ := am_ (below_step bl_ hb); have n1_ := am_ (hbox); have n2_ := am_ (gs_ hg : w.heap.size ≤ gb1001); have n3_ := n2_; clear HB; have HB := n0_; have BK1001 := n1_; have GW1001 := n2_; have GE1001 := n3_; clear n0_ n1_ n2_ n3_; clear hb hbox hg))
 repeat (go_quiet (first | ((with_reducible refine gate_dst (N := 1) rfl ?_); (try (refine gate_guard (by rfl) ?_; dsimp only)); refine box_event ?hg (N := 1) ?hd (cs := #[.int .i64 a0_0, .int .i64 a0_1, .int .i64 a0_2, .slice A0_3 l0_3.length c0_3]) (t := 65) ?hr ?_; (case hd => rfl); (case hg => rfl); (case hr => first | (go_simp; done) | (go_simp; rfl)); intro gb1001 hg w3 hbox hb; have n0_ := am_ (below_step bl_ hb); have n1_ := am_ (hbox); have n2_ := am_ (gs_ hg : w.heap.size ≤ gb1001); have n3_ := n2_; clear HB; have HB := n0_; have BK1001 := n1_; have GW1001 := n2_; have GE1001 := n3_; clear n0_ n1_ n2_ n3_; clear hb hbox hg)); go_upto_region 1 with (first | ((with_reducible refine gate_dst (N := 1) rfl ?_); (try (refine gate_guard (by rfl) ?_; dsimp only)); refine box_event ?hg (N := 1) ?hd (cs := #[.int .i64 a0_0, .int .i64 a0_1, .int .i64 a0_2, .slice A0_3 l0_3.length c0_3]) (t := 65) ?hr ?_; (case hd => rfl); (case hg => rfl); (case hr => first | (go_simp; done) | (go_simp; rfl)); intro gb1001 hg w3 hbox hb; have n0_ := am_ (below_step bl_ hb); have n1_ := am_ (hbox); have n2_ := am_ (gs_ hg : w.heap.size ≤ gb1001); have n3_ := n2_; clear HB; have HB := n0_; have BK1001 := n1_; have GW1001 := n2_; have GE1001 := n3_; clear n0_ n1_ n2_ n3_; clear hb hbox hg)))
 (try simp only [Act.put, List.setIfInBounds_toArray, List.set_cons_zero, List.set_cons_succ])
 go_cut [42] (fun v42 wc => ∃ (kq : Nat) (x42_1 : Bool), v42 = .bool x42_1 ∧ Aside0 (spec_GoodHead.j0 kq x42_1 a0_0 a0_1 a0_2 l0_3 = some r) ∧ Aside0 (kq ≤ k) ∧ Aside0 (wc.heap[gb1001]? = some (.cells #[.int .i64 a0_0, .int .i64 a0_1, .int .i64 a0_2, (.slice A0_3 l0_3.length c0_3)] 65 (0, 0))) ∧ Aside0 (Below w.heap.size w wc))
 case first =>
  have H := HC2.out
  clear HC2
  replace H := Option.bind_eq_some_iff.mp H
  obtain ⟨t1002, A40, H⟩ := H
  replace H : (if t1002 = true then (if a0_1 < 0 then (spec_GoodHead.j0 k true a0_0 a0_1 a0_2 l0_3) else (if a0_1 > 200 then (spec_GoodHead.j0 k true a0_0 a0_1 a0_2 l0_3) else ((spec_GoodSeries.f k l0_3).bind fun t1003 => (if t1003 = true then (if (l0_3.length : Int) > a0_1 then (spec_GoodHead.j0 k true a0_0 a0_1 a0_2 l0_3) else (if a0_2 < (-1) then (spec_GoodHead.j0 k true a0_0 a0_1 a0_2 l0_3) else (spec_GoodHead.j0 k (decide (a0_2 > 1000000000000)) a0_0 a0_1 a0_2 l0_3))) else (spec_GoodHead.j0 k true a0_0 a0_1 a0_2 l0_3))))) else (spec_GoodHead.j0 k true a0_0 a0_1 a0_2 l0_3)) = some r := H
  have A4 := am_ A40
  clear A40
  by_cases c5 : t1002 = true
  ·subst c5
   have H1 : (if a0_1 < 0 then (spec_GoodHead.j0 k true a0_0 a0_1 a0_2 l0_3) else (if a0_1 > 200 then (spec_GoodHead.j0 k true a0_0 a0_1 a0_2 l0_3) else ((spec_GoodSeries.f k l0_3).bind fun t1003 => (if t1003 = true then (if (l0_3.length : Int) > a0_1 then (spec_GoodHead.j0 k true a0_0 a0_1 a0_2 l0_3) else (if a0_2 < (-1) then (spec_GoodHead.j0 k true a0_0 a0_1 a0_2 l0_3) else (spec_GoodHead.j0 k (decide (a0_2 > 1000000000000)) a0_0 a0_1 a0_2 l0_3))) else (spec_GoodHead.j0 k true a0_0 a0_1 a0_2 l0_3))))) = some r := by rw [if_pos rfl] at H; exact H
   clear H
   have H := H1
   clear H1
   by_cases c6 : a0_1 < 0
   ·rw [if_pos c6] at H
    have c6b0 : decide (a0_1 < 0) = true := decide_eq_true c6
    clear c6
    (first | rw [c6b0] | (simp only [i64_w, i32_w]; rw [c6b0]) | skip)
    have H' := am_ H
    clear H
    have hcz7_0 := bc4_0 BK1001
    have hcz7_1 := bc4_1 BK1001
    have hcz7_2 := bc4_2 BK1001
    have hcz7_3 := bc4_3 BK1001
    have hfz7_0 := bf_ BK1001 0
    have hfz7_1 := bf_ BK1001 1
    have hfz7_2 := bf_ BK1001 2
    have hfz7_3 := bf_ BK1001 3
    go_wp2_with (first | (go_at_call 101; (with_reducible refine (spec_l3Time.calls a0_0 true _ A4.out).mono ?_); rintro e w' ⟨rfl, ⟨nd, rfl⟩⟩; (try exact dd_)))
    repeat (go_quiet (first | (go_at_call 101; (with_reducible refine (spec_l3Time.calls a0_0 true _ A4.out).mono ?_); rintro e w' ⟨rfl, ⟨nd, rfl⟩⟩; (try exact dd_))); try go_wp2_with (first | (go_at_call 101; (with_reducible refine (spec_l3Time.calls a0_0 true _ A4.out).mono ?_); rintro e w' ⟨rfl, ⟨nd, rfl⟩⟩; (try exact dd_))))
    go_meet
    case rel => exact ⟨_, (true), rs_, H', ⟨by first | omega | exact Nat.le_refl _⟩, ⟨vk_ BK1001⟩, ⟨bg_⟩⟩
   ·rw [if_neg c6] at H
    have c6b0 : decide (a0_1 < 0) = false := decide_eq_false c6
    clear c6
    (first | rw [c6b0] | (simp only [i64_w, i32_w]; rw [c6b0]) | skip)
    by_cases c8 : a0_1 > 200
    ·rw [if_pos c8] at H
     have c8b0 : decide (200 < a0_1) = true := decide_eq_true c8
     clear c8
     have H' := am_ H
     clear H
     have hcz9_0 := bc4_0 BK1001
     have hcz9_1 := bc4_1 BK1001
     have hcz9_2 := bc4_2 BK1001
     have hcz9_3 := bc4_3 BK1001
     have hfz9_0 := bf_ BK1001 0
     have hfz9_1 := bf_ BK1001 1
     have hfz9_2 := bf_ BK1001 2
     have hfz9_3 := bf_ BK1001 3
     go_wp2_with (first | (go_at_call 101; (with_reducible refine (spec_l3Time.calls a0_0 true _ A4.out).mono ?_); rintro e w' ⟨rfl, ⟨nd, rfl⟩⟩; (try exact dd_)))
     repeat (go_quiet (first | (go_at_call 101; (with_reducible refine (spec_l3Time.calls a0_0 true _ A4.out).mono ?_); rintro e w' ⟨rfl, ⟨nd, rfl⟩⟩; (try exact dd_))); try go_wp2_with (first | (go_at_call 101; (with_reducible refine (spec_l3Time.calls a0_0 true _ A4.out).mono ?_); rintro e w' ⟨rfl, ⟨nd, rfl⟩⟩; (try exact dd_))))
     go_meet
     case rel => exact ⟨_, (true), rs_, H', ⟨by first | omega | exact Nat.le_refl _⟩, ⟨vk_ BK1001⟩, ⟨bg_⟩⟩
    ·rw [if_neg c8] at H
     have c8b0 : decide (200 < a0_1) = false := decide_eq_false c8
     clear c8
     replace H := Option.bind_eq_some_iff.mp H
     obtain ⟨t1003, A100, H⟩ := H
     replace H : (if t1003 = true then (if (l0_3.length : Int) > a0_1 then (spec_GoodHead.j0 k true a0_0 a0_1 a0_2 l0_3) else (if a0_2 < (-1) then (spec_GoodHead.j0 k true a0_0 a0_1 a0_2 l0_3) else (spec_GoodHead.j0 k (decide (a0_2 > 1000000000000)) a0_0 a0_1 a0_2 l0_3))) else (spec_GoodHead.j0 k true a0_0 a0_1 a0_2 l0_3)) = some r := H
     have A10 := am_ A100
     clear A100
     by_cases c11 : t1003 = true
     ·subst c11
      have H1 : (if (l0_3.length : Int) > a0_1 then (spec_GoodHead.j0 k true a0_0 a0_1 a0_2 l0_3) else (if a0_2 < (-1) then (spec_GoodHead.j0 k true a0_0 a0_1 a0_2 l0_3) else (spec_GoodHead.j0 k (decide (a0_2 > 1000000000000)) a0_0 a0_1 a0_2 l0_3))) = some r := by rw [if_pos rfl] at H; exact H
      clear H
      have H := H1
      clear H1
      by_cases c12 : (l0_3.length : Int) > a0_1
      ·rw [if_pos c12] at H
       have c12b0 : decide (a0_1 < (l0_3.length : Int)) = true := decide_eq_true c12
       clear c12
       have H' := am_ H
       clear H
       have hcz13_0 := bc4_0 BK1001
       have hcz13_1 := bc4_1 BK1001
       have hcz13_2 := bc4_2 BK1001
       have hcz13_3 := bc4_3 BK1001
       have hfz13_0 := bf_ BK1001 0
       have hfz13_1 := bf_ BK1001 1
       have hfz13_2 := bf_ BK1001 2
       have hfz13_3 := bf_ BK1001 3
       go_wp2_with (first | (go_at_call 101; (with_reducible refine (spec_l3Time.calls a0_0 true _ A4.out).mono ?_); rintro e w' ⟨rfl, ⟨nd, rfl⟩⟩; (try exact dd_)) | (go_at_call 42; (with_reducible refine (spec_GoodSeries.calls k _ _ l0_3 true _ ?side1 ?side2 A10.out).mono ?_); (case side1 => exact cc_ (Kd.C_below HR0_3.out bg_)); (case side2 => exact HC0_3.out); rintro e w14 ⟨rfl, hb⟩; have n0_ := am_ (blk_below (g := gb1001) (vk_ BK1001) hb); have n1_ := am_ (below_step bg_ hb); clear BK1001; clear HB; have BK1001 := n0_; have HB := n1_; clear n0_ n1_; (try clear hb); (try clear hb2); (try clear hk); (try clear hi); have hcz15_0 := bc4_0 BK1001; have hcz15_1 := bc4_1 BK1001; have hcz15_2 := bc4_2 BK1001; have hcz15_3 := bc4_3 BK1001; have hfz15_0 := bf_ BK1001 0; have hfz15_1 := bf_ BK1001 1; have hfz15_2 := bf_ BK1001 2; have hfz15_3 := bf_ BK1001 3))
       repeat (go_quiet (first | (go_at_call 101; (with_reducible refine (spec_l3Time.calls a0_0 true _ A4.out).mono ?_); rintro e w' ⟨rfl, ⟨nd, rfl⟩⟩; (try exact dd_)) | (go_at_call 42; (with_reducible refine (spec_GoodSeries.calls k _ _ l0_3 true _ ?side1 ?side2 A10.out).mono ?_); (case side1 => exact cc_ (Kd.C_below HR0_3.out bg_)); (case side2 => exact HC0_3.out); rintro e w14 ⟨rfl, hb⟩; have n0_ := am_ (blk_below (g := gb1001) (vk_ BK1001) hb); have n1_ := am_ (below_step bg_ hb); clear BK1001; clear HB; have BK1001 := n0_; have HB := n1_; clear n0_ n1_; (try clear hb); (try clear hb2); (try clear hk); (try clear hi); have hcz15_0 := bc4_0 BK1001; have hcz15_1 := bc4_1 BK1001; have hcz15_2 := bc4_2 BK1001; have hcz15_3 := bc4_3 BK1001; have hfz15_0 := bf_ BK1001 0; have hfz15_1 := bf_ BK1001 1; have hfz15_2 := bf_ BK1001 2; have hfz15_3 := bf_ BK1001 3)); try go_wp2_with (first | (go_at_call 101; (with_reducible refine (spec_l3Time.calls a0_0 true _ A4.out).mono ?_); rintro e w' ⟨rfl, ⟨nd, rfl⟩⟩; (try exact dd_)) | (go_at_call 42; (with_reducible refine (spec_GoodSeries.calls k _ _ l0_3 true _ ?side1 ?side2 A10.out).mono ?_); (case side1 => exact cc_ (Kd.C_below HR0_3.out bg_)); (case side2 => exact HC0_3.out); rintro e w14 ⟨rfl, hb⟩; have n0_ := am_ (blk_below (g := gb1001) (vk_ BK1001) hb); have n1_ := am_ (below_step bg_ hb); clear BK1001; clear HB; have BK1001 := n0_; have HB := n1_; clear n0_ n1_; (try clear hb); (try clear hb2); (try clear hk); (try clear hi); have hcz15_0 := bc4_0 BK1001; have hcz15_1 := bc4_1 BK1001; have hcz15_2 := bc4_2 BK1001; have hcz15_3 := bc4_3 BK1001; have hfz15_0 := bf_ BK1001 0; have hfz15_1 := bf_ BK1001 1; have hfz15_2 := bf_ BK1001 2; have hfz15_3 := bf_ BK1001 3)))
       go_meet
       case rel => exact ⟨_, (true), rs_, H', ⟨by first | omega | exact Nat.le_refl _⟩, ⟨vk_ BK1001⟩, ⟨bg_⟩⟩
      ·rw [if_neg c12] at H
       have c12b0 : decide (a0_1 < (l0_3.length : Int)) = false := decide_eq_false c12
       clear c12
       by_cases c16 : a0_2 < (-1)
       ·rw [if_pos c16] at H
        have c16b0 : decide (a0_2 < (-1)) = true := decide_eq_true c16
        clear c16
        have H' := am_ H
        clear H
        have hcz17_0 := bc4_0 BK1001
        have hcz17_1 := bc4_1 BK1001
        have hcz17_2 := bc4_2 BK1001
        have hcz17_3 := bc4_3 BK1001
        have hfz17_0 := bf_ BK1001 0
        have hfz17_1 := bf_ BK1001 1
        have hfz17_2 := bf_ BK1001 2
        have hfz17_3 := bf_ BK1001 3
        go_wp2_with (first | (go_at_call 101; (with_reducible refine (spec_l3Time.calls a0_0 true _ A4.out).mono ?_); rintro e w' ⟨rfl, ⟨nd, rfl⟩⟩; (try exact dd_)) | (go_at_call 42; (with_reducible refine (spec_GoodSeries.calls k _ _ l0_3 true _ ?side1 ?side2 A10.out).mono ?_); (case side1 => exact cc_ (Kd.C_below HR0_3.out bg_)); (case side2 => exact HC0_3.out); rintro e w18 ⟨rfl, hb⟩; have n0_ := am_ (blk_below (g := gb1001) (vk_ BK1001) hb); have n1_ := am_ (below_step bg_ hb); clear BK1001; clear HB; have BK1001 := n0_; have HB := n1_; clear n0_ n1_; (try clear hb); (try clear hb2); (try clear hk); (try clear hi); have hcz19_0 := bc4_0 BK1001; have hcz19_1 := bc4_1 BK1001; have hcz19_2 := bc4_2 BK1001; have hcz19_3 := bc4_3 BK1001; have hfz19_0 := bf_ BK1001 0; have hfz19_1 := bf_ BK1001 1; have hfz19_2 := bf_ BK1001 2; have hfz19_3 := bf_ BK1001 3))
        repeat (go_quiet (first | (go_at_call 101; (with_reducible refine (spec_l3Time.calls a0_0 true _ A4.out).mono ?_); rintro e w' ⟨rfl, ⟨nd, rfl⟩⟩; (try exact dd_)) | (go_at_call 42; (with_reducible refine (spec_GoodSeries.calls k _ _ l0_3 true _ ?side1 ?side2 A10.out).mono ?_); (case side1 => exact cc_ (Kd.C_below HR0_3.out bg_)); (case side2 => exact HC0_3.out); rintro e w18 ⟨rfl, hb⟩; have n0_ := am_ (blk_below (g := gb1001) (vk_ BK1001) hb); have n1_ := am_ (below_step bg_ hb); clear BK1001; clear HB; have BK1001 := n0_; have HB := n1_; clear n0_ n1_; (try clear hb); (try clear hb2); (try clear hk); (try clear hi); have hcz19_0 := bc4_0 BK1001; have hcz19_1 := bc4_1 BK1001; have hcz19_2 := bc4_2 BK1001; have hcz19_3 := bc4_3 BK1001; have hfz19_0 := bf_ BK1001 0; have hfz19_1 := bf_ BK1001 1; have hfz19_2 := bf_ BK1001 2; have hfz19_3 := bf_ BK1001 3)); try go_wp2_with (first | (go_at_call 101; (with_reducible refine (spec_l3Time.calls a0_0 true _ A4.out).mono ?_); rintro e w' ⟨rfl, ⟨nd, rfl⟩⟩; (try exact dd_)) | (go_at_call 42; (with_reducible refine (spec_GoodSeries.calls k _ _ l0_3 true _ ?side1 ?side2 A10.out).mono ?_); (case side1 => exact cc_ (Kd.C_below HR0_3.out bg_)); (case side2 => exact HC0_3.out); rintro e w18 ⟨rfl, hb⟩; have n0_ := am_ (blk_below (g := gb1001) (vk_ BK1001) hb); have n1_ := am_ (below_step bg_ hb); clear BK1001; clear HB; have BK1001 := n0_; have HB := n1_; clear n0_ n1_; (try clear hb); (try clear hb2); (try clear hk); (try clear hi); have hcz19_0 := bc4_0 BK1001; have hcz19_1 := bc4_1 BK1001; have hcz19_2 := bc4_2 BK1001; have hcz19_3 := bc4_3 BK1001; have hfz19_0 := bf_ BK1001 0; have hfz19_1 := bf_ BK1001 1; have hfz19_2 := bf_ BK1001 2; have hfz19_3 := bf_ BK1001 3)))
        go_meet
        case rel => exact ⟨_, (true), rs_, H', ⟨by first | omega | exact Nat.le_refl _⟩, ⟨vk_ BK1001⟩, ⟨bg_⟩⟩
       ·rw [if_neg c16] at H
        have c16b0 : decide (a0_2 < (-1)) = false := decide_eq_false c16
        clear c16
        have H' := am_ H
        clear H
        have hcz20_0 := bc4_0 BK1001
        have hcz20_1 := bc4_1 BK1001
        have hcz20_2 := bc4_2 BK1001
        have hcz20_3 := bc4_3 BK1001
        have hfz20_0 := bf_ BK1001 0
        have hfz20_1 := bf_ BK1001 1
        have hfz20_2 := bf_ BK1001 2
        have hfz20_3 := bf_ BK1001 3
        go_wp2_with (first | (go_at_call 101; (with_reducible refine (spec_l3Time.calls a0_0 true _ A4.out).mono ?_); rintro e w' ⟨rfl, ⟨nd, rfl⟩⟩; (try exact dd_)) | (go_at_call 42; (with_reducible refine (spec_GoodSeries.calls k _ _ l0_3 true _ ?side1 ?side2 A10.out).mono ?_); (case side1 => exact cc_ (Kd.C_below HR0_3.out bg_)); (case side2 => exact HC0_3.out); rintro e w21 ⟨rfl, hb⟩; have n0_ := am_ (blk_below (g := gb1001) (vk_ BK1001) hb); have n1_ := am_ (below_step bg_ hb); clear BK1001; clear HB; have BK1001 := n0_; have HB := n1_; clear n0_ n1_; (try clear hb); (try clear hb2); (try clear hk); (try clear hi); have hcz22_0 := bc4_0 BK1001; have hcz22_1 := bc4_1 BK1001; have hcz22_2 := bc4_2 BK1001; have hcz22_3 := bc4_3 BK1001; have hfz22_0 := bf_ BK1001 0; have hfz22_1 := bf_ BK1001 1; have hfz22_2 := bf_ BK1001 2; have hfz22_3 := bf_ BK1001 3))
        repeat (go_quiet (first | (go_at_call 101; (with_reducible refine (spec_l3Time.calls a0_0 true _ A4.out).mono ?_); rintro e w' ⟨rfl, ⟨nd, rfl⟩⟩; (try exact dd_)) | (go_at_call 42; (with_reducible refine (spec_GoodSeries.calls k _ _ l0_3 true _ ?side1 ?side2 A10.out).mono ?_); (case side1 => exact cc_ (Kd.C_below HR0_3.out bg_)); (case side2 => exact HC0_3.out); rintro e w21 ⟨rfl, hb⟩; have n0_ := am_ (blk_below (g := gb1001) (vk_ BK1001) hb); have n1_ := am_ (below_step bg_ hb); clear BK1001; clear HB; have BK1001 := n0_; have HB := n1_; clear n0_ n1_; (try clear hb); (try clear hb2); (try clear hk); (try clear hi); have hcz22_0 := bc4_0 BK1001; have hcz22_1 := bc4_1 BK1001; have hcz22_2 := bc4_2 BK1001; have hcz22_3 := bc4_3 BK1001; have hfz22_0 := bf_ BK1001 0; have hfz22_1 := bf_ BK1001 1; have hfz22_2 := bf_ BK1001 2; have hfz22_3 := bf_ BK1001 3)); try go_wp2_with (first | (go_at_call 101; (with_reducible refine (spec_l3Time.calls a0_0 true _ A4.out).mono ?_); rintro e w' ⟨rfl, ⟨nd, rfl⟩⟩; (try exact dd_)) | (go_at_call 42; (with_reducible refine (spec_GoodSeries.calls k _ _ l0_3 true _ ?side1 ?side2 A10.out).mono ?_); (case side1 => exact cc_ (Kd.C_below HR0_3.out bg_)); (case side2 => exact HC0_3.out); rintro e w21 ⟨rfl, hb⟩; have n0_ := am_ (blk_below (g := gb1001) (vk_ BK1001) hb); have n1_ := am_ (below_step bg_ hb); clear BK1001; clear HB; have BK1001 := n0_; have HB := n1_; clear n0_ n1_; (try clear hb); (try clear hb2); (try clear hk); (try clear hi); have hcz22_0 := bc4_0 BK1001; have hcz22_1 := bc4_1 BK1001; have hcz22_2 := bc4_2 BK1001; have hcz22_3 := bc4_3 BK1001; have hfz22_0 := bf_ BK1001 0; have hfz22_1 := bf_ BK1001 1; have hfz22_2 := bf_ BK1001 2; have hfz22_3 := bf_ BK1001 3)))
        go_meet
        case rel => exact ⟨_, (decide (a0_2 > 1000000000000)), rs_, H', ⟨by first | omega | exact Nat.le_refl _⟩, ⟨vk_ BK1001⟩, ⟨bg_⟩⟩
     ·replace c11 := Bool.eq_false_iff.mpr c11
      subst c11
      have H1 : (spec_GoodHead.j0 k true a0_0 a0_1 a0_2 l0_3) = some r := by rw [if_neg (show ¬ (false = true) by decide)] at H; exact H
      clear H
      have H := H1
      clear H1
      have H' := am_ H
      clear H
      have hcz23_0 := bc4_0 BK1001
      have hcz23_1 := bc4_1 BK1001
      have hcz23_2 := bc4_2 BK1001
      have hcz23_3 := bc4_3 BK1001
      have hfz23_0 := bf_ BK1001 0
      have hfz23_1 := bf_ BK1001 1
      have hfz23_2 := bf_ BK1001 2
      have hfz23_3 := bf_ BK1001 3
      go_wp2_with (first | (go_at_call 101; (with_reducible refine (spec_l3Time.calls a0_0 true _ A4.out).mono ?_); rintro e w' ⟨rfl, ⟨nd, rfl⟩⟩; (try exact dd_)) | (go_at_call 42; (with_reducible refine (spec_GoodSeries.calls k _ _ l0_3 false _ ?side1 ?side2 A10.out).mono ?_); (case side1 => exact cc_ (Kd.C_below HR0_3.out bg_)); (case side2 => exact HC0_3.out); rintro e w24 ⟨rfl, hb⟩; have n0_ := am_ (blk_below (g := gb1001) (vk_ BK1001) hb); have n1_ := am_ (below_step bg_ hb); clear BK1001; clear HB; have BK1001 := n0_; have HB := n1_; clear n0_ n1_; (try clear hb); (try clear hb2); (try clear hk); (try clear hi)))
      repeat (go_quiet (first | (go_at_call 101; (with_reducible refine (spec_l3Time.calls a0_0 true _ A4.out).mono ?_); rintro e w' ⟨rfl, ⟨nd, rfl⟩⟩; (try exact dd_)) | (go_at_call 42; (with_reducible refine (spec_GoodSeries.calls k _ _ l0_3 false _ ?side1 ?side2 A10.out).mono ?_); (case side1 => exact cc_ (Kd.C_below HR0_3.out bg_)); (case side2 => exact HC0_3.out); rintro e w24 ⟨rfl, hb⟩; have n0_ := am_ (blk_below (g := gb1001) (vk_ BK1001) hb); have n1_ := am_ (below_step bg_ hb); clear BK1001; clear HB; have BK1001 := n0_; have HB := n1_; clear n0_ n1_; (try clear hb); (try clear hb2); (try clear hk); (try clear hi))); try go_wp2_with (first | (go_at_call 101; (with_reducible refine (spec_l3Time.calls a0_0 true _ A4.out).mono ?_); rintro e w' ⟨rfl, ⟨nd, rfl⟩⟩; (try exact dd_)) | (go_at_call 42; (with_reducible refine (spec_GoodSeries.calls k _ _ l0_3 false _ ?side1 ?side2 A10.out).mono ?_); (case side1 => exact cc_ (Kd.C_below HR0_3.out bg_)); (case side2 => exact HC0_3.out); rintro e w24 ⟨rfl, hb⟩; have n0_ := am_ (blk_below (g := gb1001) (vk_ BK1001) hb); have n1_ := am_ (below_step bg_ hb); clear BK1001; clear HB; have BK1001 := n0_; have HB := n1_; clear n0_ n1_; (try clear hb); (try clear hb2); (try clear hk); (try clear hi))))
      go_meet
      case rel => exact ⟨_, (true), rs_, H', ⟨by first | omega | exact Nat.le_refl _⟩, ⟨vk_ BK1001⟩, ⟨bg_⟩⟩
  ·replace c5 := Bool.eq_false_iff.mpr c5
   subst c5
   have H1 : (spec_GoodHead.j0 k true a0_0 a0_1 a0_2 l0_3) = some r := by rw [if_neg (show ¬ (false = true) by decide)] at H; exact H
   clear H
   have H := H1
   clear H1
   have H' := am_ H
   clear H
   have hcz25_0 := bc4_0 BK1001
   have hcz25_1 := bc4_1 BK1001
   have hcz25_2 := bc4_2 BK1001
   have hcz25_3 := bc4_3 BK1001
   have hfz25_0 := bf_ BK1001 0
   have hfz25_1 := bf_ BK1001 1
   have hfz25_2 := bf_ BK1001 2
   have hfz25_3 := bf_ BK1001 3
   go_wp2_with (first | (go_at_call 101; (with_reducible refine (spec_l3Time.calls a0_0 false _ A4.out).mono ?_); rintro e w' ⟨rfl, ⟨nd, rfl⟩⟩; (try exact dd_)))
   repeat (go_quiet (first | (go_at_call 101; (with_reducible refine (spec_l3Time.calls a0_0 false _ A4.out).mono ?_); rintro e w' ⟨rfl, ⟨nd, rfl⟩⟩; (try exact dd_))); try go_wp2_with (first | (go_at_call 101; (with_reducible refine (spec_l3Time.calls a0_0 false _ A4.out).mono ?_); rintro e w' ⟨rfl, ⟨nd, rfl⟩⟩; (try exact dd_))))
   go_meet
   case rel => exact ⟨_, (true), rs_, H', ⟨by first | omega | exact Nat.le_refl _⟩, ⟨vk_ BK1001⟩, ⟨bg_⟩⟩
 case rest =>
  clear HC2
  try clear c1
  try clear p2
  try clear c4
  try clear c5
  try clear c6
  try clear c6b0
  try clear c8
  try clear c8b0
  try clear c11
  try clear c12
  try clear c12b0
  try clear c16
  try clear c16b0
  try clear hcz13_0
  try clear hcz13_1
  try clear hcz13_2
  try clear hcz13_3
  try clear hcz15_0
  try clear hcz15_1
  try clear hcz15_2
  try clear hcz15_3
  try clear hcz17_0
  try clear hcz17_1
  try clear hcz17_2
  try clear hcz17_3
  try clear hcz19_0
  try clear hcz19_1
  try clear hcz19_2
  try clear hcz19_3
  try clear hcz20_0
  try clear hcz20_1
  try clear hcz20_2
  try clear hcz20_3
  try clear hcz22_0
  try clear hcz22_1
  try clear hcz22_2
  try clear hcz22_3
  try clear hcz23_0
  try clear hcz23_1
  try clear hcz23_2
  try clear hcz23_3
  try clear hcz25_0
  try clear hcz25_1
  try clear hcz25_2
  try clear hcz25_3
  try clear hcz7_0
  try clear hcz7_1
  try clear hcz7_2
  try clear hcz7_3
  try clear hcz9_0
  try clear hcz9_1
  try clear hcz9_2
  try clear hcz9_3
  try clear hfz13_0
  try clear hfz13_1
  try clear hfz13_2
  try clear hfz13_3
  try clear hfz15_0
  try clear hfz15_1
  try clear hfz15_2
  try clear hfz15_3
  try clear hfz17_0
  try clear hfz17_1
  try clear hfz17_2
  try clear hfz17_3
  try clear hfz19_0
  try clear hfz19_1
  try clear hfz19_2
  try clear hfz19_3
  try clear hfz20_0
  try clear hfz20_1
  try clear hfz20_2
  try clear hfz20_3
  try clear hfz22_0
  try clear hfz22_1
  try clear hfz22_2
  try clear hfz22_3
  try clear hfz23_0
  try clear hfz23_1
  try clear hfz23_2
  try clear hfz23_3
  try clear hfz25_0
  try clear hfz25_1
  try clear hfz25_2
  try clear hfz25_3
  try clear hfz7_0
  try clear hfz7_1
  try clear hfz7_2
  try clear hfz7_3
  try clear hfz9_0
  try clear hfz9_1
  try clear hfz9_2
  try clear hfz9_3
  obtain ⟨kq, x42_1, rfl, HA, HJ1, BK1001, HB⟩ := hcut
  cases kq with
  | zero => exact absurd HA.out (by simp [spec_GoodHead.j0])
  | succ kj1 =>
   have H := HA.out
   clear HA
   simp only [spec_GoodHead.j0] at H
   by_cases c26 : x42_1 = true
   ·subst c26
    have H1 : (some false) = some r := by rw [if_pos rfl] at H; exact H
    clear H
    have H := H1
    clear H1
    obtain rfl := Option.some.inj H
    go_wp2
    repeat (go_quiet (fail); try go_wp2)
    go_ret
    exact ⟨rf_, bg_⟩
   ·replace c26 := Bool.eq_false_iff.mpr c26
    subst c26
    have H1 : (spec_GoodHead.l0 kj1 l0_3 (l0_3.length : Int) 0 a0_0 a0_1 a0_2 l0_3) = some r := by rw [if_neg (show ¬ (false = true) by decide)] at H; exact H
    clear H
    have H := H1
    clear H1
    have H' := am_ H
    clear H
    have hcz27_0 := bc4_0 BK1001
    have hcz27_1 := bc4_1 BK1001
    have hcz27_2 := bc4_2 BK1001
    have hcz27_3 := bc4_3 BK1001
    have hfz27_0 := bf_ BK1001 0
    have hfz27_1 := bf_ BK1001 1
    have hfz27_2 := bf_ BK1001 2
    have hfz27_3 := bf_ BK1001 3
    go_wp2
    repeat (go_quiet (fail); try go_wp2)
    go_loopg [46] kj1 (fun kq v46 w' => ∃ (x46_2 : Int), v46 = .int .i64 x46_2 ∧ Aside0 (spec_GoodHead.l0 kq l0_3 (l0_3.length : Int) x46_2 a0_0 a0_1 a0_2 l0_3 = some r) ∧ Aside0 (kq ≤ kj1) ∧ Aside0 (w'.heap[gb1001]? = some (.cells #[.int .i64 a0_0, .int .i64 a0_1, .int .i64 a0_2, (.slice A0_3 l0_3.length c0_3)] 65 (0, 0))) ∧ Aside0 (Below w.heap.size w w'))
    case atStart => exact ⟨(0), rs_, H', ⟨Nat.le_refl _⟩, ⟨vk_ BK1001⟩, ⟨bg_⟩⟩
    case round =>
     clear H'
     try clear c1
     try clear c2
     try clear p2
     try clear c4
     try clear c5
     try clear c6
     try clear c6b0
     try clear c8
     try clear c8b0
     try clear c11
     try clear c12
     try clear c12b0
     try clear c16
     try clear c16b0
     try clear c26
     try clear hcz13_0
     try clear hcz13_1
     try clear hcz13_2
     try clear hcz13_3
     try clear hcz15_0
     try clear hcz15_1
     try clear hcz15_2
     try clear hcz15_3
     try clear hcz17_0
     try clear hcz17_1
     try clear hcz17_2
     try clear hcz17_3
     try clear hcz19_0
     try clear hcz19_1
     try clear hcz19_2
     try clear hcz19_3
     try clear hcz20_0
     try clear hcz20_1
     try clear hcz20_2
     try clear hcz20_3
     try clear hcz22_0
     try clear hcz22_1
     try clear hcz22_2
     try clear hcz22_3
     try clear hcz23_0
     try clear hcz23_1
     try clear hcz23_2
     try clear hcz23_3
     try clear hcz25_0
     try clear hcz25_1
     try clear hcz25_2
     try clear hcz25_3
     try clear hcz27_0
     try clear hcz27_1
     try clear hcz27_2
     try clear hcz27_3
     try clear hcz7_0
     try clear hcz7_1
     try clear hcz7_2
     try clear hcz7_3
     try clear hcz9_0
     try clear hcz9_1
     try clear hcz9_2
     try clear hcz9_3
     try clear hfz13_0
     try clear hfz13_1
     try clear hfz13_2
     try clear hfz13_3
     try clear hfz15_0
     try clear hfz15_1
     try clear hfz15_2
     try clear hfz15_3
     try clear hfz17_0
     try clear hfz17_1
     try clear hfz17_2
     try clear hfz17_3
     try clear hfz19_0
     try clear hfz19_1
     try clear hfz19_2
     try clear hfz19_3
     try clear hfz20_0
     try clear hfz20_1
     try clear hfz20_2
     try clear hfz20_3
     try clear hfz22_0
     try clear hfz22_1
     try clear hfz22_2
     try clear hfz22_3
     try clear hfz23_0
     try clear hfz23_1
     try clear hfz23_2
     try clear hfz23_3
     try clear hfz25_0
     try clear hfz25_1
     try clear hfz25_2
     try clear hfz25_3
     try clear hfz27_0
     try clear hfz27_1
     try clear hfz27_2
     try clear hfz27_3
     try clear hfz7_0
     try clear hfz7_1
     try clear hfz7_2
     try clear hfz7_3
     try clear hfz9_0
     try clear hfz9_1
     try clear hfz9_2
     try clear hfz9_3
     try clear p2
     obtain ⟨x46_2, rfl, HA, HK2, BK1001, HB⟩ := hrel
     cases gk with
     | zero => exact absurd HA.out (by simp [spec_GoodHead.l0])
     | succ k2 =>
      have H := HA.out
      clear HA
      simp only [spec_GoodHead.l0] at H
      by_cases c28 : x46_2 < (l0_3.length : Int)
      ·rw [if_pos c28] at H
       have c28b0 : decide (x46_2 < (l0_3.length : Int)) = true := decide_eq_true c28
       clear c28
       by_cases c29 : 0 ≤ x46_2
       ·rw [if_pos c29] at H
        have c29b0 : decide (0 ≤ x46_2) = true := decide_eq_true c29
        clear c29
        by_cases c30 : x46_2 < (l0_3.length : Int)
        ·rw [if_pos c30] at H
         have c30b0 : decide (x46_2 < (l0_3.length : Int)) = true := decide_eq_true c30
         clear c30
         obtain ⟨ji31, hji31⟩ : ∃ j_ : Int, (wrap64 ((((rd_T103 l0_3 x46_2).f1).length : Int) - 1)) = j_ := ⟨_, rfl⟩
         replace H : (if 0 ≤ (ji31) then (if (ji31) < (((rd_T103 l0_3 x46_2).f1).length : Int) then (if ((rd_T115 ((rd_T103 l0_3 x46_2).f1) (ji31)).f0) > a0_2 then (some false) else (spec_GoodHead.l0 k2 l0_3 (l0_3.length : Int) (wrap64 (x46_2 + 1)) a0_0 a0_1 a0_2 l0_3)) else (none)) else (none)) = some r := by first | (rw [hji31] at H; exact H) | (simp only [hji31] at H ⊢; exact H)
         have hji31w : (IntKind.i64.wrap ((((rd_T103 l0_3 x46_2).f1).length : Int) - 1)) = ji31 := (i64_w _).trans hji31
         by_cases c32 : 0 ≤ (ji31)
         ·rw [if_pos c32] at H
          have c32b0 : decide (0 ≤ (ji31)) = true := decide_eq_true c32
          clear c32
          by_cases c33 : (ji31) < (((rd_T103 l0_3 x46_2).f1).length : Int)
          ·rw [if_pos c33] at H
           have c33b0 : decide ((ji31) < (((rd_T103 l0_3 x46_2).f1).length : Int)) = true := decide_eq_true c33
           clear c33
           by_cases c34 : ((rd_T115 ((rd_T103 l0_3 x46_2).f1) (ji31)).f0) > a0_2
           ·rw [if_pos c34] at H
            have c34b0 : decide (a0_2 < ((rd_T115 ((rd_T103 l0_3 x46_2).f1) (ji31)).f0)) = true := decide_eq_true c34
            clear c34
            obtain rfl := Option.some.inj H
            have p1004 : 0 ≤ (x46_2 : Int) := od_
            have q1004 : x46_2 < (l0_3.length : Int) := od_
            obtain ⟨ad1004, A1004_0, c1004_0, A1004_1, c1004_1, e1004, hx1004_0, hx1004_1, hl1004_0, hi1004_0, hl1004_1, hi1004_1⟩ := at_T103 HR0_3.out x46_2 p1004 q1004
            cases e1004
            replace hx1004_0 := kp_ HB hx1004_0
            replace hx1004_1 := kp_ HB hx1004_1
            have HR1004_0 := am_ hi1004_0
            have HC1004_0 := am_ hl1004_0
            clear hi1004_0 hl1004_0
            have HR1004_1 := am_ hi1004_1
            have HC1004_1 := am_ hl1004_1
            clear hi1004_1 hl1004_1
            replace p1004 := eq_true p1004
            replace q1004 := eq_true q1004
            go_wp2_with (first | ((with_reducible refine gate_dst (N := 4) rfl ?_); (try (refine gate_guard (by rfl) ?_; dsimp only)); refine box_event ?hg (N := 4) ?hd (cs := #[.slice none 0 0, .slice none 0 0]) (t := 103) ?hr ?_; (case hd => rfl); (case hg => rfl); (case hr => first | (go_simp; done) | (go_simp; rfl)); intro gb1005 hg w35 hbox hb; have n0_ := am_ (blk_below (g := gb1001) (vk_ BK1001) hb); have n1_ := am_ (below_step bg_ hb); have n2_ := am_ (hbox); have n3_ := am_ (gg_ hg : w.heap.size ≤ gb1005); have n4_ := n3_; have n5_ := am_ ((by rw [hg]; exact Nat.ne_of_lt (blk_lt (g := gb1001) (o := .cells #[.int .i64 a0_0, .int .i64 a0_1, .int .i64 a0_2, .slice (some ad1004) l0_3.length c0_3] 65 (0, 0)) (vk_ BK1001)) : gb1001 ≠ gb1005)); have n6_ := am_ ((by rw [hg]; exact Nat.ne_of_gt (blk_lt (g := gb1001) (o := .cells #[.int .i64 a0_0, .int .i64 a0_1, .int .i64 a0_2, .slice (some ad1004) l0_3.length c0_3] 65 (0, 0)) (vk_ BK1001)) : gb1005 ≠ gb1001)); clear BK1001; clear HB; have BK1001 := n0_; have HB := n1_; have BK1005 := n2_; have GW1005 := n3_; have GE1005 := n4_; have NB1001_1005 := n5_; have NB1005_1001 := n6_; clear n0_ n1_ n2_ n3_ n4_ n5_ n6_; clear hb hbox hg; have hnb36 := NB1005_1001.out; have hnc36 := NB1001_1005.out; have hcz37_0 := bc2_0 BK1005; have hcz37_1 := bc2_1 BK1005; have hfz37_0 := bf_ BK1005 0; have hfz37_1 := bf_ BK1005 1; have p1006 : 0 ≤ ((ji31) : Int) := od_; have q1006 : (ji31) < (((rd_T103 l0_3 x46_2).f1).length : Int) := od_; obtain ⟨ad1006, e1006, hx1006_0, hx1006_1⟩ := at_T115 HR1004_1.out (ji31) p1006 q1006; cases e1006; have hn1006_0 : ad1006.block ≠ gb1005 := hb_ hx1006_0 GW1005; have hn1006_1 : ad1006.block ≠ gb1005 := hb_ hx1006_0 GW1005; replace hx1006_0 := kp_ HB hx1006_0; replace hx1006_1 := kp_ HB hx1006_1; replace hx1006_0 := cf_ gb1005 0 hn1006_0 (.slice A1004_0 ((rd_T103 l0_3 x46_2).f0).length c1004_0) hx1006_0; replace hx1006_1 := cf_ gb1005 0 hn1006_0 (.slice A1004_0 ((rd_T103 l0_3 x46_2).f0).length c1004_0) hx1006_1; replace hx1006_0 := cf_ gb1005 1 hn1006_1 (.slice (some ad1006) ((rd_T103 l0_3 x46_2).f1).length c1004_1) hx1006_0; replace hx1006_1 := cf_ gb1005 1 hn1006_1 (.slice (some ad1006) ((rd_T103 l0_3 x46_2).f1).length c1004_1) hx1006_1; (try have hy1006_0 := fun (n_ : Nat) => (show ((((w35.drewN n_).setCell ⟨gb1005, 0, none⟩ (.slice A1004_0 ((rd_T103 l0_3 x46_2).f0).length c1004_0)).setCell ⟨gb1005, 1, none⟩ (.slice (some ad1006) ((rd_T103 l0_3 x46_2).f1).length c1004_1))).cell? _ = some _ from hx1006_0)); (try have hy1006_1 := fun (n_ : Nat) => (show ((((w35.drewN n_).setCell ⟨gb1005, 0, none⟩ (.slice A1004_0 ((rd_T103 l0_3 x46_2).f0).length c1004_0)).setCell ⟨gb1005, 1, none⟩ (.slice (some ad1006) ((rd_T103 l0_3 x46_2).f1).length c1004_1))).cell? _ = some _ from hx1006_1)); clear hn1006_0; clear hn1006_1; replace p1006 := eq_true p1006; replace q1006 := eq_true q1006; have hcz38_0 := bc4_0 BK1001; have hcz38_1 := bc4_1 BK1001; have hcz38_2 := bc4_2 BK1001; have hcz38_3 := bc4_3 BK1001; have hfz38_0 := bf_ BK1001 0; have hfz38_1 := bf_ BK1001 1; have hfz38_2 := bf_ BK1001 2; have hfz38_3 := bf_ BK1001 3))
            repeat (go_quiet (first | ((with_reducible refine gate_dst (N := 4) rfl ?_); (try (refine gate_guard (by rfl) ?_; dsimp only)); refine box_event ?hg (N := 4) ?hd (cs := #[.slice none 0 0, .slice none 0 0]) (t := 103) ?hr ?_; (case hd => rfl); (case hg => rfl); (case hr => first | (go_simp; done) | (go_simp; rfl)); intro gb1005 hg w35 hbox hb; have n0_ := am_ (blk_below (g := gb1001) (vk_ BK1001) hb); have n1_ := am_ (below_step bg_ hb); have n2_ := am_ (hbox); have n3_ := am_ (gg_ hg : w.heap.size ≤ gb1005); have n4_ := n3_; have n5_ := am_ ((by rw [hg]; exact Nat.ne_of_lt (blk_lt (g := gb1001) (o := .cells #[.int .i64 a0_0, .int .i64 a0_1, .int .i64 a0_2, .slice (some ad1004) l0_3.length c0_3] 65 (0, 0)) (vk_ BK1001)) : gb1001 ≠ gb1005)); have n6_ := am_ ((by rw [hg]; exact Nat.ne_of_gt (blk_lt (g := gb1001) (o := .cells #[.int .i64 a0_0, .int .i64 a0_1, .int .i64 a0_2, .slice (some ad1004) l0_3.length c0_3] 65 (0, 0)) (vk_ BK1001)) : gb1005 ≠ gb1001)); clear BK1001; clear HB; have BK1001 := n0_; have HB := n1_; have BK1005 := n2_; have GW1005 := n3_; have GE1005 := n4_; have NB1001_1005 := n5_; have NB1005_1001 := n6_; clear n0_ n1_ n2_ n3_ n4_ n5_ n6_; clear hb hbox hg; have hnb36 := NB1005_1001.out; have hnc36 := NB1001_1005.out; have hcz37_0 := bc2_0 BK1005; have hcz37_1 := bc2_1 BK1005; have hfz37_0 := bf_ BK1005 0; have hfz37_1 := bf_ BK1005 1; have p1006 : 0 ≤ ((ji31) : Int) := od_; have q1006 : (ji31) < (((rd_T103 l0_3 x46_2).f1).length : Int) := od_; obtain ⟨ad1006, e1006, hx1006_0, hx1006_1⟩ := at_T115 HR1004_1.out (ji31) p1006 q1006; cases e1006; have hn1006_0 : ad1006.block ≠ gb1005 := hb_ hx1006_0 GW1005; have hn1006_1 : ad1006.block ≠ gb1005 := hb_ hx1006_0 GW1005; replace hx1006_0 := kp_ HB hx1006_0; replace hx1006_1 := kp_ HB hx1006_1; replace hx1006_0 := cf_ gb1005 0 hn1006_0 (.slice A1004_0 ((rd_T103 l0_3 x46_2).f0).length c1004_0) hx1006_0; replace hx1006_1 := cf_ gb1005 0 hn1006_0 (.slice A1004_0 ((rd_T103 l0_3 x46_2).f0).length c1004_0) hx1006_1; replace hx1006_0 := cf_ gb1005 1 hn1006_1 (.slice (some ad1006) ((rd_T103 l0_3 x46_2).f1).length c1004_1) hx1006_0; replace hx1006_1 := cf_ gb1005 1 hn1006_1 (.slice (some ad1006) ((rd_T103 l0_3 x46_2).f1).length c1004_1) hx1006_1; (try have hy1006_0 := fun (n_ : Nat) => (show ((((w35.drewN n_).setCell ⟨gb1005, 0, none⟩ (.slice A1004_0 ((rd_T103 l0_3 x46_2).f0).length c1004_0)).setCell ⟨gb1005, 1, none⟩ (.slice (some ad1006) ((rd_T103 l0_3 x46_2).f1).length c1004_1))).cell? _ = some _ from hx1006_0)); (try have hy1006_1 := fun (n_ : Nat) => (show ((((w35.drewN n_).setCell ⟨gb1005, 0, none⟩ (.slice A1004_0 ((rd_T103 l0_3 x46_2).f0).length c1004_0)).setCell ⟨gb1005, 1, none⟩ (.slice (some ad1006) ((rd_T103 l0_3 x46_2).f1).length c1004_1))).cell? _ = some _ from hx1006_1)); clear hn1006_0; clear hn1006_1; replace p1006 := eq_true p1006; replace q1006 := eq_true q1006; have hcz38_0 := bc4_0 BK1001; have hcz38_1 := bc4_1 BK1001; have hcz38_2 := bc4_2 BK1001; have hcz38_3 := bc4_3 BK1001; have hfz38_0 := bf_ BK1001 0; have hfz38_1 := bf_ BK1001 1; have hfz38_2 := bf_ BK1001 2; have hfz38_3 := bf_ BK1001 3)); try go_wp2_with (first | ((with_reducible refine gate_dst (N := 4) rfl ?_); (try (refine gate_guard (by rfl) ?_; dsimp only)); refine box_event ?hg (N := 4) ?hd (cs := #[.slice none 0 0, .slice none 0 0]) (t := 103) ?hr ?_; (case hd => rfl); (case hg => rfl); (case hr => first | (go_simp; done) | (go_simp; rfl)); intro gb1005 hg w35 hbox hb; have n0_ := am_ (blk_below (g := gb1001) (vk_ BK1001) hb); have n1_ := am_ (below_step bg_ hb); have n2_ := am_ (hbox); have n3_ := am_ (gg_ hg : w.heap.size ≤ gb1005); have n4_ := n3_; have n5_ := am_ ((by rw [hg]; exact Nat.ne_of_lt (blk_lt (g := gb1001) (o := .cells #[.int .i64 a0_0, .int .i64 a0_1, .int .i64 a0_2, .slice (some ad1004) l0_3.length c0_3] 65 (0, 0)) (vk_ BK1001)) : gb1001 ≠ gb1005)); have n6_ := am_ ((by rw [hg]; exact Nat.ne_of_gt (blk_lt (g := gb1001) (o := .cells #[.int .i64 a0_0, .int .i64 a0_1, .int .i64 a0_2, .slice (some ad1004) l0_3.length c0_3] 65 (0, 0)) (vk_ BK1001)) : gb1005 ≠ gb1001)); clear BK1001; clear HB; have BK1001 := n0_; have HB := n1_; have BK1005 := n2_; have GW1005 := n3_; have GE1005 := n4_; have NB1001_1005 := n5_; have NB1005_1001 := n6_; clear n0_ n1_ n2_ n3_ n4_ n5_ n6_; clear hb hbox hg; have hnb36 := NB1005_1001.out; have hnc36 := NB1001_1005.out; have hcz37_0 := bc2_0 BK1005; have hcz37_1 := bc2_1 BK1005; have hfz37_0 := bf_ BK1005 0; have hfz37_1 := bf_ BK1005 1; have p1006 : 0 ≤ ((ji31) : Int) := od_; have q1006 : (ji31) < (((rd_T103 l0_3 x46_2).f1).length : Int) := od_; obtain ⟨ad1006, e1006, hx1006_0, hx1006_1⟩ := at_T115 HR1004_1.out (ji31) p1006 q1006; cases e1006; have hn1006_0 : ad1006.block ≠ gb1005 := hb_ hx1006_0 GW1005; have hn1006_1 : ad1006.block ≠ gb1005 := hb_ hx1006_0 GW1005; replace hx1006_0 := kp_ HB hx1006_0; replace hx1006_1 := kp_ HB hx1006_1; replace hx1006_0 := cf_ gb1005 0 hn1006_0 (.slice A1004_0 ((rd_T103 l0_3 x46_2).f0).length c1004_0) hx1006_0; replace hx1006_1 := cf_ gb1005 0 hn1006_0 (.slice A1004_0 ((rd_T103 l0_3 x46_2).f0).length c1004_0) hx1006_1; replace hx1006_0 := cf_ gb1005 1 hn1006_1 (.slice (some ad1006) ((rd_T103 l0_3 x46_2).f1).length c1004_1) hx1006_0; replace hx1006_1 := cf_ gb1005 1 hn1006_1 (.slice (some ad1006) ((rd_T103 l0_3 x46_2).f1).length c1004_1) hx1006_1; (try have hy1006_0 := fun (n_ : Nat) => (show ((((w35.drewN n_).setCell ⟨gb1005, 0, none⟩ (.slice A1004_0 ((rd_T103 l0_3 x46_2).f0).length c1004_0)).setCell ⟨gb1005, 1, none⟩ (.slice (some ad1006) ((rd_T103 l0_3 x46_2).f1).length c1004_1))).cell? _ = some _ from hx1006_0)); (try have hy1006_1 := fun (n_ : Nat) => (show ((((w35.drewN n_).setCell ⟨gb1005, 0, none⟩ (.slice A1004_0 ((rd_T103 l0_3 x46_2).f0).length c1004_0)).setCell ⟨gb1005, 1, none⟩ (.slice (some ad1006) ((rd_T103 l0_3 x46_2).f1).length c1004_1))).cell? _ = some _ from hx1006_1)); clear hn1006_0; clear hn1006_1; replace p1006 := eq_true p1006; replace q1006 := eq_true q1006; have hcz38_0 := bc4_0 BK1001; have hcz38_1 := bc4_1 BK1001; have hcz38_2 := bc4_2 BK1001; have hcz38_3 := bc4_3 BK1001; have hfz38_0 := bf_ BK1001 0; have hfz38_1 := bf_ BK1001 1; have hfz38_2 := bf_ BK1001 2; have hfz38_3 := bf_ BK1001 3)))
            go_ret
            exact ⟨by first | rfl | (simp [errW_none, errW_some] <;> rfl) | (simp only [← hji31]; first | rfl | (simp [errW_none, errW_some] <;> rfl)) | (simp [*, errW_none, errW_some] <;> rfl) | (simp [*, Go.Proofs.Ythgeohdpjedhnaa.Gt.nil_bne]; done), bg_⟩
           ·rw [if_neg c34] at H
            have c34b0 : decide (a0_2 < ((rd_T115 ((rd_T103 l0_3 x46_2).f1) (ji31)).f0)) = false := decide_eq_false c34
            clear c34
            have H' := am_ H
            clear H
            have p1004 : 0 ≤ (x46_2 : Int) := od_
            have q1004 : x46_2 < (l0_3.length : Int) := od_
            obtain ⟨ad1004, A1004_0, c1004_0, A1004_1, c1004_1, e1004, hx1004_0, hx1004_1, hl1004_0, hi1004_0, hl1004_1, hi1004_1⟩ := at_T103 HR0_3.out x46_2 p1004 q1004
            cases e1004
            replace hx1004_0 := kp_ HB hx1004_0
            replace hx1004_1 := kp_ HB hx1004_1
            have HR1004_0 := am_ hi1004_0
            have HC1004_0 := am_ hl1004_0
            clear hi1004_0 hl1004_0
            have HR1004_1 := am_ hi1004_1
            have HC1004_1 := am_ hl1004_1
            clear hi1004_1 hl1004_1
            replace p1004 := eq_true p1004
            replace q1004 := eq_true q1004
            go_wp2_with (first | ((with_reducible refine gate_dst (N := 4) rfl ?_); (try (refine gate_guard (by rfl) ?_; dsimp only)); refine box_event ?hg (N := 4) ?hd (cs := #[.slice none 0 0, .slice none 0 0]) (t := 103) ?hr ?_; (case hd => rfl); (case hg => rfl); (case hr => first | (go_simp; done) | (go_simp; rfl)); intro gb1005 hg w39 hbox hb; have n0_ := am_ (blk_below (g := gb1001) (vk_ BK1001) hb); have n1_ := am_ (below_step bg_ hb); have n2_ := am_ (hbox); have n3_ := am_ (gg_ hg : w.heap.size ≤ gb1005); have n4_ := n3_; have n5_ := am_ ((by rw [hg]; exact Nat.ne_of_lt (blk_lt (g := gb1001) (o := .cells #[.int .i64 a0_0, .int .i64 a0_1, .int .i64 a0_2, .slice (some ad1004) l0_3.length c0_3] 65 (0, 0)) (vk_ BK1001)) : gb1001 ≠ gb1005)); have n6_ := am_ ((by rw [hg]; exact Nat.ne_of_gt (blk_lt (g := gb1001) (o := .cells #[.int .i64 a0_0, .int .i64 a0_1, .int .i64 a0_2, .slice (some ad1004) l0_3.length c0_3] 65 (0, 0)) (vk_ BK1001)) : gb1005 ≠ gb1001)); clear BK1001; clear HB; have BK1001 := n0_; have HB := n1_; have BK1005 := n2_; have GW1005 := n3_; have GE1005 := n4_; have NB1001_1005 := n5_; have NB1005_1001 := n6_; clear n0_ n1_ n2_ n3_ n4_ n5_ n6_; clear hb hbox hg; have hnb40 := NB1005_1001.out; have hnc40 := NB1001_1005.out; have hcz41_0 := bc2_0 BK1005; have hcz41_1 := bc2_1 BK1005; have hfz41_0 := bf_ BK1005 0; have hfz41_1 := bf_ BK1005 1; have p1006 : 0 ≤ ((ji31) : Int) := od_; have q1006 : (ji31) < (((rd_T103 l0_3 x46_2).f1).length : Int) := od_; obtain ⟨ad1006, e1006, hx1006_0, hx1006_1⟩ := at_T115 HR1004_1.out (ji31) p1006 q1006; cases e1006; have hn1006_0 : ad1006.block ≠ gb1005 := hb_ hx1006_0 GW1005; have hn1006_1 : ad1006.block ≠ gb1005 := hb_ hx1006_0 GW1005; replace hx1006_0 := kp_ HB hx1006_0; replace hx1006_1 := kp_ HB hx1006_1; replace hx1006_0 := cf_ gb1005 0 hn1006_0 (.slice A1004_0 ((rd_T103 l0_3 x46_2).f0).length c1004_0) hx1006_0; replace hx1006_1 := cf_ gb1005 0 hn1006_0 (.slice A1004_0 ((rd_T103 l0_3 x46_2).f0).length c1004_0) hx1006_1; replace hx1006_0 := cf_ gb1005 1 hn1006_1 (.slice (some ad1006) ((rd_T103 l0_3 x46_2).f1).length c1004_1) hx1006_0; replace hx1006_1 := cf_ gb1005 1 hn1006_1 (.slice (some ad1006) ((rd_T103 l0_3 x46_2).f1).length c1004_1) hx1006_1; (try have hy1006_0 := fun (n_ : Nat) => (show ((((w39.drewN n_).setCell ⟨gb1005, 0, none⟩ (.slice A1004_0 ((rd_T103 l0_3 x46_2).f0).length c1004_0)).setCell ⟨gb1005, 1, none⟩ (.slice (some ad1006) ((rd_T103 l0_3 x46_2).f1).length c1004_1))).cell? _ = some _ from hx1006_0)); (try have hy1006_1 := fun (n_ : Nat) => (show ((((w39.drewN n_).setCell ⟨gb1005, 0, none⟩ (.slice A1004_0 ((rd_T103 l0_3 x46_2).f0).length c1004_0)).setCell ⟨gb1005, 1, none⟩ (.slice (some ad1006) ((rd_T103 l0_3 x46_2).f1).length c1004_1))).cell? _ = some _ from hx1006_1)); clear hn1006_0; clear hn1006_1; replace p1006 := eq_true p1006; replace q1006 := eq_true q1006; have hcz42_0 := bc4_0 BK1001; have hcz42_1 := bc4_1 BK1001; have hcz42_2 := bc4_2 BK1001; have hcz42_3 := bc4_3 BK1001; have hfz42_0 := bf_ BK1001 0; have hfz42_1 := bf_ BK1001 1; have hfz42_2 := bf_ BK1001 2; have hfz42_3 := bf_ BK1001 3))
            repeat (go_quiet (first | ((with_reducible refine gate_dst (N := 4) rfl ?_); (try (refine gate_guard (by rfl) ?_; dsimp only)); refine box_event ?hg (N := 4) ?hd (cs := #[.slice none 0 0, .slice none 0 0]) (t := 103) ?hr ?_; (case hd => rfl); (case hg => rfl); (case hr => first | (go_simp; done) | (go_simp; rfl)); intro gb1005 hg w39 hbox hb; have n0_ := am_ (blk_below (g := gb1001) (vk_ BK1001) hb); have n1_ := am_ (below_step bg_ hb); have n2_ := am_ (hbox); have n3_ := am_ (gg_ hg : w.heap.size ≤ gb1005); have n4_ := n3_; have n5_ := am_ ((by rw [hg]; exact Nat.ne_of_lt (blk_lt (g := gb1001) (o := .cells #[.int .i64 a0_0, .int .i64 a0_1, .int .i64 a0_2, .slice (some ad1004) l0_3.length c0_3] 65 (0, 0)) (vk_ BK1001)) : gb1001 ≠ gb1005)); have n6_ := am_ ((by rw [hg]; exact Nat.ne_of_gt (blk_lt (g := gb1001) (o := .cells #[.int .i64 a0_0, .int .i64 a0_1, .int .i64 a0_2, .slice (some ad1004) l0_3.length c0_3] 65 (0, 0)) (vk_ BK1001)) : gb1005 ≠ gb1001)); clear BK1001; clear HB; have BK1001 := n0_; have HB := n1_; have BK1005 := n2_; have GW1005 := n3_; have GE1005 := n4_; have NB1001_1005 := n5_; have NB1005_1001 := n6_; clear n0_ n1_ n2_ n3_ n4_ n5_ n6_; clear hb hbox hg; have hnb40 := NB1005_1001.out; have hnc40 := NB1001_1005.out; have hcz41_0 := bc2_0 BK1005; have hcz41_1 := bc2_1 BK1005; have hfz41_0 := bf_ BK1005 0; have hfz41_1 := bf_ BK1005 1; have p1006 : 0 ≤ ((ji31) : Int) := od_; have q1006 : (ji31) < (((rd_T103 l0_3 x46_2).f1).length : Int) := od_; obtain ⟨ad1006, e1006, hx1006_0, hx1006_1⟩ := at_T115 HR1004_1.out (ji31) p1006 q1006; cases e1006; have hn1006_0 : ad1006.block ≠ gb1005 := hb_ hx1006_0 GW1005; have hn1006_1 : ad1006.block ≠ gb1005 := hb_ hx1006_0 GW1005; replace hx1006_0 := kp_ HB hx1006_0; replace hx1006_1 := kp_ HB hx1006_1; replace hx1006_0 := cf_ gb1005 0 hn1006_0 (.slice A1004_0 ((rd_T103 l0_3 x46_2).f0).length c1004_0) hx1006_0; replace hx1006_1 := cf_ gb1005 0 hn1006_0 (.slice A1004_0 ((rd_T103 l0_3 x46_2).f0).length c1004_0) hx1006_1; replace hx1006_0 := cf_ gb1005 1 hn1006_1 (.slice (some ad1006) ((rd_T103 l0_3 x46_2).f1).length c1004_1) hx1006_0; replace hx1006_1 := cf_ gb1005 1 hn1006_1 (.slice (some ad1006) ((rd_T103 l0_3 x46_2).f1).length c1004_1) hx1006_1; (try have hy1006_0 := fun (n_ : Nat) => (show ((((w39.drewN n_).setCell ⟨gb1005, 0, none⟩ (.slice A1004_0 ((rd_T103 l0_3 x46_2).f0).length c1004_0)).setCell ⟨gb1005, 1, none⟩ (.slice (some ad1006) ((rd_T103 l0_3 x46_2).f1).length c1004_1))).cell? _ = some _ from hx1006_0)); (try have hy1006_1 := fun (n_ : Nat) => (show ((((w39.drewN n_).setCell ⟨gb1005, 0, none⟩ (.slice A1004_0 ((rd_T103 l0_3 x46_2).f0).length c1004_0)).setCell ⟨gb1005, 1, none⟩ (.slice (some ad1006) ((rd_T103 l0_3 x46_2).f1).length c1004_1))).cell? _ = some _ from hx1006_1)); clear hn1006_0; clear hn1006_1; replace p1006 := eq_true p1006; replace q1006 := eq_true q1006; have hcz42_0 := bc4_0 BK1001; have hcz42_1 := bc4_1 BK1001; have hcz42_2 := bc4_2 BK1001; have hcz42_3 := bc4_3 BK1001; have hfz42_0 := bf_ BK1001 0; have hfz42_1 := bf_ BK1001 1; have hfz42_2 := bf_ BK1001 2; have hfz42_3 := bf_ BK1001 3)); try go_wp2_with (first | ((with_reducible refine gate_dst (N := 4) rfl ?_); (try (refine gate_guard (by rfl) ?_; dsimp only)); refine box_event ?hg (N := 4) ?hd (cs := #[.slice none 0 0, .slice none 0 0]) (t := 103) ?hr ?_; (case hd => rfl); (case hg => rfl); (case hr => first | (go_simp; done) | (go_simp; rfl)); intro gb1005 hg w39 hbox hb; have n0_ := am_ (blk_below (g := gb1001) (vk_ BK1001) hb); have n1_ := am_ (below_step bg_ hb); have n2_ := am_ (hbox); have n3_ := am_ (gg_ hg : w.heap.size ≤ gb1005); have n4_ := n3_; have n5_ := am_ ((by rw [hg]; exact Nat.ne_of_lt (blk_lt (g := gb1001) (o := .cells #[.int .i64 a0_0, .int .i64 a0_1, .int .i64 a0_2, .slice (some ad1004) l0_3.length c0_3] 65 (0, 0)) (vk_ BK1001)) : gb1001 ≠ gb1005)); have n6_ := am_ ((by rw [hg]; exact Nat.ne_of_gt (blk_lt (g := gb1001) (o := .cells #[.int .i64 a0_0, .int .i64 a0_1, .int .i64 a0_2, .slice (some ad1004) l0_3.length c0_3] 65 (0, 0)) (vk_ BK1001)) : gb1005 ≠ gb1001)); clear BK1001; clear HB; have BK1001 := n0_; have HB := n1_; have BK1005 := n2_; have GW1005 := n3_; have GE1005 := n4_; have NB1001_1005 := n5_; have NB1005_1001 := n6_; clear n0_ n1_ n2_ n3_ n4_ n5_ n6_; clear hb hbox hg; have hnb40 := NB1005_1001.out; have hnc40 := NB1001_1005.out; have hcz41_0 := bc2_0 BK1005; have hcz41_1 := bc2_1 BK1005; have hfz41_0 := bf_ BK1005 0; have hfz41_1 := bf_ BK1005 1; have p1006 : 0 ≤ ((ji31) : Int) := od_; have q1006 : (ji31) < (((rd_T103 l0_3 x46_2).f1).length : Int) := od_; obtain ⟨ad1006, e1006, hx1006_0, hx1006_1⟩ := at_T115 HR1004_1.out (ji31) p1006 q1006; cases e1006; have hn1006_0 : ad1006.block ≠ gb1005 := hb_ hx1006_0 GW1005; have hn1006_1 : ad1006.block ≠ gb1005 := hb_ hx1006_0 GW1005; replace hx1006_0 := kp_ HB hx1006_0; replace hx1006_1 := kp_ HB hx1006_1; replace hx1006_0 := cf_ gb1005 0 hn1006_0 (.slice A1004_0 ((rd_T103 l0_3 x46_2).f0).length c1004_0) hx1006_0; replace hx1006_1 := cf_ gb1005 0 hn1006_0 (.slice A1004_0 ((rd_T103 l0_3 x46_2).f0).length c1004_0) hx1006_1; replace hx1006_0 := cf_ gb1005 1 hn1006_1 (.slice (some ad1006) ((rd_T103 l0_3 x46_2).f1).length c1004_1) hx1006_0; replace hx1006_1 := cf_ gb1005 1 hn1006_1 (.slice (some ad1006) ((rd_T103 l0_3 x46_2).f1).length c1004_1) hx1006_1; (try have hy1006_0 := fun (n_ : Nat) => (show ((((w39.drewN n_).setCell ⟨gb1005, 0, none⟩ (.slice A1004_0 ((rd_T103 l0_3 x46_2).f0).length c1004_0)).setCell ⟨gb1005, 1, none⟩ (.slice (some ad1006) ((rd_T103 l0_3 x46_2).f1).length c1004_1))).cell? _ = some _ from hx1006_0)); (try have hy1006_1 := fun (n_ : Nat) => (show ((((w39.drewN n_).setCell ⟨gb1005, 0, none⟩ (.slice A1004_0 ((rd_T103 l0_3 x46_2).f0).length c1004_0)).setCell ⟨gb1005, 1, none⟩ (.slice (some ad1006) ((rd_T103 l0_3 x46_2).f1).length c1004_1))).cell? _ = some _ from hx1006_1)); clear hn1006_0; clear hn1006_1; replace p1006 := eq_true p1006; replace q1006 := eq_true q1006; have hcz42_0 := bc4_0 BK1001; have hcz42_1 := bc4_1 BK1001; have hcz42_2 := bc4_2 BK1001; have hcz42_3 := bc4_3 BK1001; have hfz42_0 := bf_ BK1001 0; have hfz42_1 := bf_ BK1001 1; have hfz42_2 := bf_ BK1001 2; have hfz42_3 := bf_ BK1001 3)))
            go_roundg k2
            case measure => have := HJ1.out; have := HK2.out; omega
            case rel => exact ⟨(wrap64 (x46_2 + 1)), rs_, H', ⟨by have := HJ1.out; have := HK2.out; omega⟩, ⟨by (with_reducible repeat (first | refine blk_drewN ?_ _ | refine blk_drew ?_ | refine blk_alloc ?_ _)); refine blk_far ?_ NB1001_1005.out _; (with_reducible repeat (first | refine blk_drewN ?_ _ | refine blk_drew ?_ | refine blk_alloc ?_ _)); refine blk_far ?_ NB1001_1005.out _; (with_reducible repeat (first | refine blk_drewN ?_ _ | refine blk_drew ?_ | refine blk_alloc ?_ _)); exact BK1001.out⟩, ⟨bg_⟩⟩
          ·rw [if_neg c33] at H
           exact absurd H (by simp)
         ·rw [if_neg c32] at H
          exact absurd H (by simp)
        ·rw [if_neg c30] at H
         exact absurd H (by simp)
       ·rw [if_neg c29] at H
        exact absurd H (by simp)
      ·rw [if_neg c28] at H
       have c28b0 : decide (x46_2 < (l0_3.length : Int)) = false := decide_eq_false c28
       clear c28
       obtain rfl := Option.some.inj H
       go_wp2
       repeat (go_quiet (fail); try go_wp2)
       go_ret
       exact ⟨rf_, bg_⟩

/-! ### laws_toHead: function 50 -/
def laws_toHead.f (k : Nat) (a0_0 : Int) (a0_1 : Int) (a0_2 : Int) (l0_3 : List (S100)) : Option (Int × Int × Int × (List (S103))) := (laws_toSeriesS.f k l0_3).bind fun t1004 => (some (a0_0, a0_1, a0_2, t1004))
theorem laws_toHead.mono : ∀ a0 a1 a2 a3 k, LeO (laws_toHead.f k a0 a1 a2 a3) (laws_toHead.f (k + 1) a0 a1 a2 a3) := by
 intro a0 a1 a2 a3 k
 unfold laws_toHead.f
 repeat' first
   | with_reducible first | exact laws_toSeriesS.mono _ _ | exact LeO.refl _ | exact LeO.none _ | refine LeO.ite ?_ ?_ | refine LeO.bind ?_ (fun _ => ?_)
   | exact laws_toSeriesS.mono _ _
   | exact LeO.none _
   | refine LeO.ite ?_ ?_
   | refine LeO.bind ?_ (fun _ => ?_)
set_option maxHeartbeats 8000000 in
set_option maxRecDepth 100000 in
theorem laws_toHead.calls (k : Nat) (a0_0 : Int) (a0_1 : Int) (a0_2 : Int) (A0_3 : Option Addr) (c0_3 : Nat) (l0_3 : List (S100)) (r1 : Int) (r2 : Int) (r3 : Int) (r4 : List (S103)) (w : World) (hr0_3 : Kd.C k100 w A0_3 l0_3.length l0_3) (hc0_3 : l0_3.length ≤ c0_3) (h : laws_toHead.f k a0_0 a0_1 a0_2 l0_3 = some (r1, r2, r3, r4)) :
  Calls Try.prog 50 #[.agg #[.int .i64 a0_0, .int .i64 a0_1, .int .i64 a0_2, .slice A0_3 l0_3.length c0_3]] w fun e w' => ∃ v3_ : Value, e = .returned (.agg #[.int .i64 r1, .int .i64 r2, .int .i64 r3, v3_]) ∧ Kd.S k103 103 w' w.heap.size (fun _ => True) v3_ r4 ∧ Below w.heap.size w w' := by
 have hu61 := Try.underlying61
 have hu65 := Try.underlying65
 have HR0_3 := am_ hr0_3
 have HC0_3 := am_ hc0_3
 clear hr0_3 hc0_3
 have HB := am_ (Below.refl w.heap.size w)
 have H : ((laws_toSeriesS.f k l0_3).bind fun t1004 => (some (a0_0, a0_1, a0_2, t1004))) = some (r1, r2, r3, r4) := h
 clear h
 replace H := Option.bind_eq_some_iff.mp H
 obtain ⟨t1004, A20, H⟩ := H
 replace H : (some (a0_0, a0_1, a0_2, t1004)) = some (r1, r2, r3, r4) := H
 have A2 := am_ A20
 clear A20
 simp only [Option.some.injEq, Prod.mk.injEq] at H
 obtain ⟨rfl, rfl, rfl, rfl⟩ := H
 go_enter Try.func50, Try.ntmps50
 go_wp2_with (first | ((with_reducible refine gate_dst (N := 1) rfl ?_); refine box_event ?hg (N := 1) ?hd (cs := #[.int .i64 a0_0, .int .i64 a0_1, .int .i64 a0_2, .slice A0_3 l0_3.length c0_3]) (t := 61) ?hr ?_; (case hd => rfl); (case hg => rfl); (case hr => first | (go_simp; done) | (go_simp; rfl)); intro gb1001 hg w3 hbox hb; have n0_ := am_ (below_step bl_ hb); have n1_ := am_ (hbox); have n2_ := am_ (gs_ hg : w.heap.size ≤ gb1001); have n3_ := n2_; clear HB; have HB := n0_; have BK1001 := n1_; have GW1001 := n2_; have GE1001 := n3_; clear n0_ n1_ n2_ n3_; clear hb hbox hg) | ((with_reducible refine gate_dst (N := 2) rfl ?_); refine box_event ?hg (N := 2) ?hd (cs := #[.int .i64 0, .int .i64 0, .int .i64 0, .slice none 0 0]) (t := 65) ?hr ?_; (case hd => rfl); (case hg => rfl); (case hr => first | (go_simp; done) | (go_simp; rfl)); intro gb1002 hg w4 hbox hb; have n0_ := am_ (blk_below (g := gb1001) (vk_ BK1001) hb); have n1_ := am_ (below_step bg_ hb); have n2_ := am_ (hbox); have n3_ := am_ (gg_ hg : w.heap.size ≤ gb1002); have n4_ := n3_; have n5_ := am_ ((by rw [hg]; exact Nat.ne_of_lt (blk_lt (g := gb1001) (o := .cells #[.int .i64 a0_0, .int .i64 a0_1, .int .i64 a0_2, .slice A0_3 l0_3.length c0_3] 61 (0, 0)) (vk_ BK1001)) : gb1001 ≠ gb1002)); have n6_ := am_ ((by rw [hg]; exact Nat.ne_of_gt (blk_lt (g := gb1001) (o := .cells #[.int .i64 a0_0, .int .i64 a0_1, .int .i64 a0_2, .slice A0_3 l0_3.length c0_3] 61 (0, 0)) (vk_ BK1001)) : gb1002 ≠ gb1001)); clear BK1001; clear HB; have BK1001 := n0_; have HB := n1_; have BK1002 := n2_; have GW1002 := n3_; have GE1002 := n4_; have NB1001_1002 := n5_; have NB1002_1001 := n6_; clear n0_ n1_ n2_ n3_ n4_ n5_ n6_; clear hb hbox hg) | ((with_reducible refine gate_dst (N := 3) rfl ?_); refine box_event ?hg (N := 3) ?hd (cs := #[.int .i64 0, .int .i64 0, .int .i64 0, .slice none 0 0]) (t := 65) ?hr ?_; (case hd => rfl); (case hg => rfl); (case hr => first | (go_simp; done) | (go_simp; rfl)); intro gb1003 hg w5 hbox hb; have n0_ := am_ (blk_below (g := gb1001) (vk_ BK1001) hb); have n1_ := am_ (blk_below (g := gb1002) (vk_ BK1002) hb); have n2_ := am_ (below_step bg_ hb); have n3_ := am_ (hbox); have n4_ := am_ (gg_ hg : w.heap.size ≤ gb1003); have n5_ := n4_; have n6_ := am_ ((by rw [hg]; exact Nat.ne_of_lt (blk_lt (g := gb1001) (o := .cells #[.int .i64 a0_0, .int .i64 a0_1, .int .i64 a0_2, .slice A0_3 l0_3.length c0_3] 61 (0, 0)) (vk_ BK1001)) : gb1001 ≠ gb1003)); have n7_ := am_ ((by rw [hg]; exact Nat.ne_of_gt (blk_lt (g := gb1001) (o := .cells #[.int .i64 a0_0, .int .i64 a0_1, .int .i64 a0_2, .slice A0_3 l0_3.length c0_3] 61 (0, 0)) (vk_ BK1001)) : gb1003 ≠ gb1001)); have n8_ := am_ ((by rw [hg]; exact Nat.ne_of_lt (blk_lt (g := gb1002) (o := .cells #[.int .i64 0, .int .i64 0, .int .i64 0, .slice none 0 0] 65 (0, 0)) (vk_ BK1002)) : gb1002 ≠ gb1003)); have n9_ := am_ ((by rw [hg]; exact Nat.ne_of_gt (blk_lt (g := gb1002) (o := .cells #[.int .i64 0, .int .i64 0, .int .i64 0, .slice none 0 0] 65 (0, 0)) (vk_ BK1002)) : gb1003 ≠ gb1002)); clear BK1001; clear BK1002; clear HB; have BK1001 := n0_; have BK1002 := n1_; have HB := n2_; have BK1003 := n3_; have GW1003 := n4_; have GE1003 := n5_; have NB1001_1003 := n6_; have NB1003_1001 := n7_; have NB1002_1003 := n8_; have NB1003_1002 := n9_; clear n0_ n1_ n2_ n3_ n4_ n5_ n6_ n7_ n8_ n9_; clear hb hbox hg; have hnb6 := NB1001_1002.out; have hnc6 := NB1002_1001.out; have hnb7 := NB1001_1003.out; have hnc7 := NB1003_1001.out; have hcz8_0 := bc4_0 BK1001; have hcz8_1 := bc4_1 BK1001; have hcz8_2 := bc4_2 BK1001; have hcz8_3 := bc4_3 BK1001; have hfz8_0 := bf_ BK1001 0; have hfz8_1 := bf_ BK1001 1; have hfz8_2 := bf_ BK1001 2; have hfz8_3 := bf_ BK1001 3; have hnb9 := NB1003_1002.out; have hnc9 := NB1002_1003.out; have hcz10_0 := bc4_0 BK1003; have hcz10_1 := bc4_1 BK1003; have hcz10_2 := bc4_2 BK1003; have hcz10_3 := bc4_3 BK1003; have hfz10_0 := bf_ BK1003 0; have hfz10_1 := bf_ BK1003 1; have hfz10_2 := bf_ BK1003 2; have hfz10_3 := bf_ BK1003 3) | ((with_reducible refine gate_callee (f := 43) rfl ?_); refine goesL_ (some 15) rfl rfl Try.func43 (by kernel_rfl) rfl #[.slice A0_3 l0_3.length c0_3] rfl ag_ ?_; (with_reducible refine (laws_toSeriesS.calls k _ _ l0_3 t1004 _ ?side1 ?side2 A2.out).mono ?_); (case side1 => exact Kd.C_below HR0_3.out bg_); (case side2 => exact HC0_3.out); rintro e w11 ⟨v1005, rfl, ho0, hb⟩; refine ⟨_, rfl, ?_⟩; have n0_ := am_ (Kd.S_lower ho0 (below_size bg_)); have n1_ := am_ (blk_below (g := gb1001) (o := .cells #[.int .i64 a0_0, .int .i64 a0_1, .int .i64 a0_2, .slice A0_3 l0_3.length c0_3] 61 (0, 0)) (by (with_reducible repeat (first | refine blk_drewN ?_ _ | refine blk_drew ?_ | refine blk_alloc ?_ _)); refine blk_far ?_ NB1001_1003.out _; (with_reducible repeat (first | refine blk_drewN ?_ _ | refine blk_drew ?_ | refine blk_alloc ?_ _)); refine blk_far ?_ NB1001_1003.out _; (with_reducible repeat (first | refine blk_drewN ?_ _ | refine blk_drew ?_ | refine blk_alloc ?_ _)); refine blk_far ?_ NB1001_1003.out _; (with_reducible repeat (first | refine blk_drewN ?_ _ | refine blk_drew ?_ | refine blk_alloc ?_ _)); exact BK1001.out) hb); have n2_ := am_ (blk_below (g := gb1002) (o := .cells #[.int .i64 0, .int .i64 0, .int .i64 0, .slice none 0 0] 65 (0, 0)) (by (with_reducible repeat (first | refine blk_drewN ?_ _ | refine blk_drew ?_ | refine blk_alloc ?_ _)); refine blk_far ?_ NB1002_1003.out _; (with_reducible repeat (first | refine blk_drewN ?_ _ | refine blk_drew ?_ | refine blk_alloc ?_ _)); refine blk_far ?_ NB1002_1003.out _; (with_reducible repeat (first | refine blk_drewN ?_ _ | refine blk_drew ?_ | refine blk_alloc ?_ _)); refine blk_far ?_ NB1002_1003.out _; (with_reducible repeat (first | refine blk_drewN ?_ _ | refine blk_drew ?_ | refine blk_alloc ?_ _)); exact BK1002.out) hb); have n3_ := am_ (blk_below (g := gb1003) (o := .cells #[.int .i64 a0_0, .int .i64 a0_1, .int .i64 a0_2, .slice none 0 0] 65 (0, 0)) (by (with_reducible repeat (first | refine blk_drewN ?_ _ | refine blk_drew ?_ | refine blk_alloc ?_ _)); refine blk_put (cs := #[.int .i64 a0_0, .int .i64 a0_1, .int .i64 0, .slice none 0 0]) ?_ 2 _ rfl; (with_reducible repeat (first | refine blk_drewN ?_ _ | refine blk_drew ?_ | refine blk_alloc ?_ _)); refine blk_put (cs := #[.int .i64 a0_0, .int .i64 0, .int .i64 0, .slice none 0 0]) ?_ 1 _ rfl; (with_reducible repeat (first | refine blk_drewN ?_ _ | refine blk_drew ?_ | refine blk_alloc ?_ _)); refine blk_put (cs := #[.int .i64 0, .int .i64 0, .int .i64 0, .slice none 0 0]) ?_ 0 _ rfl; (with_reducible repeat (first | refine blk_drewN ?_ _ | refine blk_drew ?_ | refine blk_alloc ?_ _)); exact BK1003.out) hb); have n4_ := am_ (below_step bg_ hb); clear BK1001; clear BK1002; clear BK1003; clear HB; have HO1006 := n0_; have BK1001 := n1_; have BK1002 := n2_; have BK1003 := n3_; have HB := n4_; clear n0_ n1_ n2_ n3_ n4_; (try clear hb); (try clear hb2); (try clear hk); (try clear hi); (try clear ho0); obtain ⟨Ao12, co12, eo12⟩ := Kd.S_slice HO1006.out; subst eo12; have hcz13_0 := bc4_0 BK1003; have hcz13_1 := bc4_1 BK1003; have hcz13_2 := bc4_2 BK1003; have hcz13_3 := bc4_3 BK1003; have hfz13_0 := bf_ BK1003 0; have hfz13_1 := bf_ BK1003 1; have hfz13_2 := bf_ BK1003 2; have hfz13_3 := bf_ BK1003 3; have hcz14_0 := bc4_0 BK1002; have hcz14_1 := bc4_1 BK1002; have hcz14_2 := bc4_2 BK1002; have hcz14_3 := bc4_3 BK1002; have hfz14_0 := bf_ BK1002 0; have hfz14_1 := bf_ BK1002 1; have hfz14_2 := bf_ BK1002 2; have hfz14_3 := bf_ BK1002 3))
 refine bodyPost_ret (results_cell_row rfl _ _ gb1002 65 #[.int .i64 a0_0, .int .i64 a0_1, .int .i64 a0_2, .slice Ao12 t1004.length co12] (0, 0) _ rfl (by (with_reducible repeat (first | refine blk_drewN ?_ _ | refine blk_drew ?_ | refine blk_alloc ?_ _)); refine blk_put (cs := #[.int .i64 a0_0, .int .i64 a0_1, .int .i64 a0_2, .slice none 0 0]) ?_ 3 _ rfl; (with_reducible repeat (first | refine blk_drewN ?_ _ | refine blk_drew ?_ | refine blk_alloc ?_ _)); refine blk_put (cs := #[.int .i64 a0_0, .int .i64 a0_1, .int .i64 0, .slice none 0 0]) ?_ 2 _ rfl; (with_reducible repeat (first | refine blk_drewN ?_ _ | refine blk_drew ?_ | refine blk_alloc ?_ _)); refine blk_put (cs := #[.int .i64 a0_0, .int .i64 0, .int .i64 0, .slice none 0 0]) ?_ 1 _ rfl; (with_reducible repeat (first | refine blk_drewN ?_ _ | refine blk_drew ?_ | refine blk_alloc ?_ _)); refine blk_put (cs := #[.int .i64 0, .int .i64 0, .int .i64 0, .slice none 0 0]) ?_ 0 _ rfl; (with_reducible repeat (first | refine blk_drewN ?_ _ | refine blk_drew ?_ | refine blk_alloc ?_ _)); refine blk_far ?_ NB1002_1003.out _; (with_reducible repeat (first | refine blk_drewN ?_ _ | refine blk_drew ?_ | refine blk_alloc ?_ _)); exact BK1002.out) Try.underlying65 rfl (by kernel_rfl)) rfl ?_
 exact ⟨_, rf_, by (with_reducible repeat (first | apply Kd.S_alloc | apply Kd.S_drewN | apply Kd.S_drew)); exact Kd.S_mono (Kd.S_far (p := ⟨gb1002, 3, none⟩) (Kd.S_far (p := ⟨gb1002, 2, none⟩) (Kd.S_far (p := ⟨gb1002, 1, none⟩) (Kd.S_far (p := ⟨gb1002, 0, none⟩) (Kd.S_far (p := ⟨gb1003, 3, none⟩) (Kd.S_types (Kd.S_types HO1006.out BK1003.out (by decide)) BK1002.out (by decide)) (fun _ hk => hk.1.2) (.slice Ao12 t1004.length co12)) (fun _ hk => hk.2) (.int .i64 a0_0)) (fun _ hk => hk.2) (.int .i64 a0_1)) (fun _ hk => hk.2) (.int .i64 a0_2)) (fun _ hk => hk.2) (.slice Ao12 t1004.length co12)) (fun _ hk => trivial), bg_⟩

/-! ### impl_goodWindow: function 102 -/
def impl_goodWindow.f (a0 : Int) (a1 : Int) : Option (Bool) := (impl_isTime.f a0).bind fun t1001 => (if t1001 = true then (if a1 ≥ 0 then (some (decide (a1 ≤ 200))) else (some false)) else (some false))
set_option maxHeartbeats 8000000 in
set_option maxRecDepth 100000 in
theorem impl_goodWindow.calls (a0 : Int) (a1 : Int) (r : Bool) (w : World) (h : impl_goodWindow.f a0 a1 = some r) :
  Calls Try.prog 102 #[.int .i64 a0, .int .i64 a1] w fun e w' => e = .returned (.bool r) ∧ Drawn0 w w' := by
 have H : ((impl_isTime.f a0).bind fun t1001 => (if t1001 = true then (if a1 ≥ 0 then (some (decide (a1 ≤ 200))) else (some false)) else (some false))) = some r := h
 clear h
 replace H := Option.bind_eq_some_iff.mp H
 obtain ⟨t1001, A30, H⟩ := H
 replace H : (if t1001 = true then (if a1 ≥ 0 then (some (decide (a1 ≤ 200))) else (some false)) else (some false)) = some r := H
 have A3 := am_ A30
 clear A30
 by_cases c4 : t1001 = true
 ·subst c4
  have H1 : (if a1 ≥ 0 then (some (decide (a1 ≤ 200))) else (some false)) = some r := by rw [if_pos rfl] at H; exact H
  clear H
  have H := H1
  clear H1
  by_cases c5 : a1 ≥ 0
  ·rw [if_pos c5] at H
   have c5b0 : decide (0 ≤ a1) = true := decide_eq_true c5
   clear c5
   obtain rfl := Option.some.inj H
   go_enter Try.func102, Try.ntmps102
   go_wp2_with (first | ((with_reducible refine gate_callee (f := 103) rfl ?_); refine goesL_ (some 6) rfl rfl Try.func103 (by kernel_rfl) rfl #[.int .i64 a0] rfl ag_ ?_; (with_reducible refine (impl_isTime.calls a0 true _ A3.out).mono ?_); rintro e w' ⟨rfl, ⟨nd, rfl⟩⟩; refine ⟨_, rfl, ?_⟩))
   go_ret
   exact ⟨by first | rfl | (simp; done) | (simp [*]; done), by repeat (first | exact Drawn0.refl _ | apply Drawn0.step)⟩
  ·rw [if_neg c5] at H
   have c5b0 : decide (0 ≤ a1) = false := decide_eq_false c5
   clear c5
   obtain rfl := Option.some.inj H
   go_enter Try.func102, Try.ntmps102
   go_wp2_with (first | ((with_reducible refine gate_callee (f := 103) rfl ?_); refine goesL_ (some 6) rfl rfl Try.func103 (by kernel_rfl) rfl #[.int .i64 a0] rfl ag_ ?_; (with_reducible refine (impl_isTime.calls a0 true _ A3.out).mono ?_); rintro e w' ⟨rfl, ⟨nd, rfl⟩⟩; refine ⟨_, rfl, ?_⟩))
   go_ret
   exact ⟨by first | rfl | (simp; done) | (simp [*]; done), by repeat (first | exact Drawn0.refl _ | apply Drawn0.step)⟩
 ·replace c4 := Bool.eq_false_iff.mpr c4
  subst c4
  have H1 : (some false) = some r := by rw [if_neg (show ¬ (false = true) by decide)] at H; exact H
  clear H
  have H := H1
  clear H1
  obtain rfl := Option.some.inj H
  go_enter Try.func102, Try.ntmps102
  go_wp2_with (first | ((with_reducible refine gate_callee (f := 103) rfl ?_); refine goesL_ (some 6) rfl rfl Try.func103 (by kernel_rfl) rfl #[.int .i64 a0] rfl ag_ ?_; (with_reducible refine (impl_isTime.calls a0 false _ A3.out).mono ?_); rintro e w' ⟨rfl, ⟨nd, rfl⟩⟩; refine ⟨_, rfl, ?_⟩))
  go_ret
  exact ⟨by first | rfl | (simp; done) | (simp [*]; done), by repeat (first | exact Drawn0.refl _ | apply Drawn0.step)⟩

/-! ### impl_GoodHead: function 51 -/
mutual
def impl_GoodHead.j0 : Nat → Bool → Int → Int → Int → List (S103) → Option (Bool)
 | 0, _, _, _, _, _ => none
 | k + 1, x35, x1002000, x1002001, x1002002, x1002003 => if x35 = true then (some false) else (impl_GoodHead.l0 k x1002003 (x1002003.length : Int) 0 x1002000 x1002001 x1002002 x1002003)
def impl_GoodHead.l0 : Nat → List (S103) → Int → Int → Int → Int → Int → List (S103) → Option (Bool)
 | 0, _, _, _, _, _, _, _ => none
 | k + 1, x37, x38, x39, x1002000, x1002001, x1002002, x1002003 => if x39 < x38 then (if 0 ≤ x39 then (if x39 < (x37.length : Int) then (if 0 ≤ (wrap64 ((((rd_T103 x37 x39).f1).length : Int) - 1)) then (if (wrap64 ((((rd_T103 x37 x39).f1).length : Int) - 1)) < (((rd_T103 x37 x39).f1).length : Int) then (if ((rd_T115 ((rd_T103 x37 x39).f1) (wrap64 ((((rd_T103 x37 x39).f1).length : Int) - 1))).f0) > x1002002 then (some false) else (impl_GoodHead.l0 k x37 x38 (wrap64 (x39 + 1)) x1002000 x1002001 x1002002 x1002003)) else (none)) else (none)) else (none)) else (none)) else (some true)
end
def impl_GoodHead.f (k : Nat) (a0_0 : Int) (a0_1 : Int) (a0_2 : Int) (l0_3 : List (S103)) : Option (Bool) := (impl_goodWindow.f a0_0 a0_1).bind fun t1002 => (if t1002 = true then ((impl_GoodSeries.f k l0_3).bind fun t1003 => (if t1003 = true then (if (l0_3.length : Int) > a0_1 then (impl_GoodHead.j0 k true a0_0 a0_1 a0_2 l0_3) else (if a0_2 = (-1) then (impl_GoodHead.j0 k false a0_0 a0_1 a0_2 l0_3) else ((impl_isTime.f a0_2).bind fun t1004 => (impl_GoodHead.j0 k (!t1004) a0_0 a0_1 a0_2 l0_3)))) else (impl_GoodHead.j0 k true a0_0 a0_1 a0_2 l0_3))) else (impl_GoodHead.j0 k true a0_0 a0_1 a0_2 l0_3))
theorem impl_GoodHead.mono_l : ∀ k, (∀ y0 y1 y2 y3 y4, LeO (impl_GoodHead.j0 k y0 y1 y2 y3 y4) (impl_GoodHead.j0 (k + 1) y0 y1 y2 y3 y4)) ∧ (∀ y0 y1 y2 y3 y4 y5 y6, LeO (impl_GoodHead.l0 k y0 y1 y2 y3 y4 y5 y6) (impl_GoodHead.l0 (k + 1) y0 y1 y2 y3 y4 y5 y6))
 | 0 => ⟨fun _ _ _ _ _ r h => by simp [impl_GoodHead.j0] at h, fun _ _ _ _ _ _ _ r h => by simp [impl_GoodHead.l0] at h⟩
 | k + 1 => by
  obtain ⟨ih0, ih1⟩ := impl_GoodHead.mono_l k
  refine ⟨?_, ?_⟩
  ·intro y0 y1 y2 y3 y4
   unfold impl_GoodHead.j0
   repeat' first
   | with_reducible first | exact ih0 _ _ _ _ _ | exact ih1 _ _ _ _ _ _ _ | exact impl_GoodSeries.mono _ _ | exact LeO.refl _ | exact LeO.none _ | refine LeO.ite ?_ ?_ | refine LeO.bind ?_ (fun _ => ?_)
   | exact ih0 _ _ _ _ _
   | exact ih1 _ _ _ _ _ _ _
   | exact impl_GoodSeries.mono _ _
   | exact LeO.none _
   | refine LeO.ite ?_ ?_
   | refine LeO.bind ?_ (fun _ => ?_)
  ·intro y0 y1 y2 y3 y4 y5 y6
   unfold impl_GoodHead.l0
   repeat' first
   | with_reducible first | exact ih0 _ _ _ _ _ | exact ih1 _ _ _ _ _ _ _ | exact impl_GoodSeries.mono _ _ | exact LeO.refl _ | exact LeO.none _ | refine LeO.ite ?_ ?_ | refine LeO.bind ?_ (fun _ => ?_)
   | exact ih0 _ _ _ _ _
   | exact ih1 _ _ _ _ _ _ _
   | exact impl_GoodSeries.mono _ _
   | exact LeO.none _
   | refine LeO.ite ?_ ?_
   | refine LeO.bind ?_ (fun _ => ?_)
theorem impl_GoodHead.mono : ∀ a0 a1 a2 a3 k, LeO (impl_GoodHead.f k a0 a1 a2 a3) (impl_GoodHead.f (k + 1) a0 a1 a2 a3) := by
 intro a0 a1 a2 a3 k
 obtain ⟨ih0, ih1⟩ := impl_GoodHead.mono_l k
 unfold impl_GoodHead.f
 repeat' first
   | with_reducible first | exact ih0 _ _ _ _ _ | exact ih1 _ _ _ _ _ _ _ | exact impl_GoodSeries.mono _ _ | exact LeO.refl _ | exact LeO.none _ | refine LeO.ite ?_ ?_ | refine LeO.bind ?_ (fun _ => ?_)
   | exact ih0 _ _ _ _ _
   | exact ih1 _ _ _ _ _ _ _
   | exact impl_GoodSeries.mono _ _
   | exact LeO.none _
   | refine LeO.ite ?_ ?_
   | refine LeO.bind ?_ (fun _ => ?_)
set_option maxHeartbeats 8000000 in
set_option maxRecDepth 100000 in
theorem impl_GoodHead.calls (k : Nat) (a0_0 : Int) (a0_1 : Int) (a0_2 : Int) (A0_3 : Option Addr) (c0_3 : Nat) (l0_3 : List (S103)) (r : Bool) (w : World) (hr0_3 : Kd.C k103 w A0_3 l0_3.length l0_3) (hc0_3 : l0_3.length ≤ c0_3) (h : impl_GoodHead.f k a0_0 a0_1 a0_2 l0_3 = some r) :
  Calls Try.prog 51 #[.agg #[.int .i64 a0_0, .int .i64 a0_1, .int .i64 a0_2, .slice A0_3 l0_3.length c0_3]] w fun e w' => e = .returned (.bool r) ∧ Below w.heap.size w w' := by
 have hu65 := Try.underlying65
 have hu103 := Try.underlying103
 have HR0_3 := am_ hr0_3
 have HC0_3 := am_ hc0_3
 clear hr0_3 hc0_3
 have HB := am_ (Below.refl w.heap.size w)
 have H : ((impl_goodWindow.f a0_0 a0_1).bind fun t1002 => (if t1002 = true then ((impl_GoodSeries.f k l0_3).bind fun t1003 => (if t1003 = true then (if (l0_3.length : Int) > a0_1 then (impl_GoodHead.j0 k true a0_0 a0_1 a0_2 l0_3) else (if a0_2 = (-1) then (impl_GoodHead.j0 k false a0_0 a0_1 a0_2 l0_3) else ((impl_isTime.f a0_2).bind fun t1004 => (impl_GoodHead.j0 k (!t1004) a0_0 a0_1 a0_2 l0_3)))) else (impl_GoodHead.j0 k true a0_0 a0_1 a0_2 l0_3))) else (impl_GoodHead.j0 k true a0_0 a0_1 a0_2 l0_3))) = some r := h
 clear h
 have HC2 := am_ H
 clear H
 go_enter Try.func51, Try.ntmps51
 go_upto_region 1 with (first | ((with_reducible refine gate_dst (N := 1) rfl ?_); (try (refine gate_guard (by rfl) ?_; dsimp only)); refine box_event ?hg (N := 1) ?hd (cs := #[.int .i64 a0_0, .int .i64 a0_1, .int .i64 a0_2, .slice A0_3 l0_3.length c0_3]) (t := 65) ?hr ?_; (case hd => rfl); (case hg => rfl); (case hr => first | (go_simp; done) | (go_simp; rfl)); intro gb1001 hg w3 hbox hb; have n0_ := am_ (below_step bl_ hb); have n1_ := am_ (hbox); have n2_ := am_ (gs_ hg : w.heap.size ≤ gb1001); have n3_ := n2_; clear HB; have HB := n0_; have BK1001 := n1_; have GW1001 := n2_; have GE1001 := n3_; clear n0_ n1_ n2_ n3_; clear hb hbox hg))
 repeat (go_quiet (first | ((with_reducible refine gate_dst (N := 1) rfl ?_); (try (refine gate_guard (by rfl) ?_; dsimp only)); refine box_event ?hg (N := 1) ?hd (cs := #[.int .i64 a0_0, .int .i64 a0_1, .int .i64 a0_2, .slice A0_3 l0_3.length c0_3]) (t := 65) ?hr ?_; (case hd => rfl); (case hg => rfl); (case hr => first | (go_simp; done) | (go_simp; rfl)); intro gb1001 hg w3 hbox hb; have n0_ := am_ (below_step bl_ hb); have n1_ := am_ (hbox); have n2_ := am_ (gs_ hg : w.heap.size ≤ gb1001); have n3_ := n2_; clear HB; have HB := n0_; have BK1001 := n1_; have GW1001 := n2_; have GE1001 := n3_; clear n0_ n1_ n2_ n3_; clear hb hbox hg)); go_upto_region 1 with (first | ((with_reducible refine gate_dst (N := 1) rfl ?_); (try (refine gate_guard (by rfl) ?_; dsimp only)); refine box_event ?hg (N := 1) ?hd (cs := #[.int .i64 a0_0, .int .i64 a0_1, .int .i64 a0_2, .slice A0_3 l0_3.length c0_3]) (t := 65) ?hr ?_; (case hd => rfl); (case hg => rfl); (case hr => first | (go_simp; done) | (go_simp; rfl)); intro gb1001 hg w3 hbox hb; have n0_ := am_ (below_step bl_ hb); have n1_ := am_ (hbox); have n2_ := am_ (gs_ hg : w.heap.size ≤ gb1001); have n3_ := n2_; clear HB; have HB := n0_; have BK1001 := n1_; have GW1001 := n2_; have GE1001 := n3_; clear n0_ n1_ n2_ n3_; clear hb hbox hg)))
 (try simp only [Act.put, List.setIfInBounds_toArray, List.set_cons_zero, List.set_cons_succ])
 go_cut [35] (fun v35 wc => ∃ (kq : Nat) (x35_1 : Bool), v35 = .bool x35_1 ∧ Aside0 (impl_GoodHead.j0 kq x35_1 a0_0 a0_1 a0_2 l0_3 = some r) ∧ Aside0 (kq ≤ k) ∧ Aside0 (wc.heap[gb1001]? = some (.cells #[.int .i64 a0_0, .int .i64 a0_1, .int .i64 a0_2, (.slice A0_3 l0_3.length c0_3)] 65 (0, 0))) ∧ Aside0 (Below w.heap.size w wc))
 case first =>
  have H := HC2.out
  clear HC2
  replace H := Option.bind_eq_some_iff.mp H
  obtain ⟨t1002, A40, H⟩ := H
  replace H : (if t1002 = true then ((impl_GoodSeries.f k l0_3).bind fun t1003 => (if t1003 = true then (if (l0_3.length : Int) > a0_1 then (impl_GoodHead.j0 k true a0_0 a0_1 a0_2 l0_3) else (if a0_2 = (-1) then (impl_GoodHead.j0 k false a0_0 a0_1 a0_2 l0_3) else ((impl_isTime.f a0_2).bind fun t1004 => (impl_GoodHead.j0 k (!t1004) a0_0 a0_1 a0_2 l0_3)))) else (impl_GoodHead.j0 k true a0_0 a0_1 a0_2 l0_3))) else (impl_GoodHead.j0 k true a0_0 a0_1 a0_2 l0_3)) = some r := H
  have A4 := am_ A40
  clear A40
  by_cases c5 : t1002 = true
  ·subst c5
   have H1 : ((impl_GoodSeries.f k l0_3).bind fun t1003 => (if t1003 = true then (if (l0_3.length : Int) > a0_1 then (impl_GoodHead.j0 k true a0_0 a0_1 a0_2 l0_3) else (if a0_2 = (-1) then (impl_GoodHead.j0 k false a0_0 a0_1 a0_2 l0_3) else ((impl_isTime.f a0_2).bind fun t1004 => (impl_GoodHead.j0 k (!t1004) a0_0 a0_1 a0_2 l0_3)))) else (impl_GoodHead.j0 k true a0_0 a0_1 a0_2 l0_3))) = some r := by rw [if_pos rfl] at H; exact H
   clear H
   have H := H1
   clear H1
   replace H := Option.bind_eq_some_iff.mp H
   obtain ⟨t1003, A60, H⟩ := H
   replace H : (if t1003 = true then (if (l0_3.length : Int) > a0_1 then (impl_GoodHead.j0 k true a0_0 a0_1 a0_2 l0_3) else (if a0_2 = (-1) then (impl_GoodHead.j0 k false a0_0 a0_1 a0_2 l0_3) else ((impl_isTime.f a0_2).bind fun t1004 => (impl_GoodHead.j0 k (!t1004) a0_0 a0_1 a0_2 l0_3)))) else (impl_GoodHead.j0 k true a0_0 a0_1 a0_2 l0_3)) = some r := H
   have A6 := am_ A60
   clear A60
   by_cases c7 : t1003 = true
   ·subst c7
    have H1 : (if (l0_3.length : Int) > a0_1 then (impl_GoodHead.j0 k true a0_0 a0_1 a0_2 l0_3) else (if a0_2 = (-1) then (impl_GoodHead.j0 k false a0_0 a0_1 a0_2 l0_3) else ((impl_isTime.f a0_2).bind fun t1004 => (impl_GoodHead.j0 k (!t1004) a0_0 a0_1 a0_2 l0_3)))) = some r := by rw [if_pos rfl] at H; exact H
    clear H
    have H := H1
    clear H1
    by_cases c8 : (l0_3.length : Int) > a0_1
    ·rw [if_pos c8] at H
     have c8b0 : decide (a0_1 < (l0_3.length : Int)) = true := decide_eq_true c8
     clear c8
     (first | rw [c8b0] | (simp only [i64_w, i32_w]; rw [c8b0]) | skip)
     have H' := am_ H
     clear H
     have hcz9_0 := bc4_0 BK1001
     have hcz9_1 := bc4_1 BK1001
     have hcz9_2 := bc4_2 BK1001
     have hcz9_3 := bc4_3 BK1001
     have hfz9_0 := bf_ BK1001 0
     have hfz9_1 := bf_ BK1001 1
     have hfz9_2 := bf_ BK1001 2
     have hfz9_3 := bf_ BK1001 3
     go_wp2_with (first | (go_at_call 102; (with_reducible refine (impl_goodWindow.calls a0_0 a0_1 true _ A4.out).mono ?_); rintro e w' ⟨rfl, ⟨nd, rfl⟩⟩; (try exact dd_)) | (go_at_call 44; (with_reducible refine (impl_GoodSeries.calls k _ _ l0_3 true _ ?side1 ?side2 A6.out).mono ?_); (case side1 => exact cc_ (Kd.C_below HR0_3.out bg_)); (case side2 => exact HC0_3.out); rintro e w10 ⟨rfl, hb⟩; have n0_ := am_ (blk_below (g := gb1001) (vk_ BK1001) hb); have n1_ := am_ (below_step bg_ hb); clear BK1001; clear HB; have BK1001 := n0_; have HB := n1_; clear n0_ n1_; (try clear hb); (try clear hb2); (try clear hk); (try clear hi); have hcz11_0 := bc4_0 BK1001; have hcz11_1 := bc4_1 BK1001; have hcz11_2 := bc4_2 BK1001; have hcz11_3 := bc4_3 BK1001; have hfz11_0 := bf_ BK1001 0; have hfz11_1 := bf_ BK1001 1; have hfz11_2 := bf_ BK1001 2; have hfz11_3 := bf_ BK1001 3))
     repeat (go_quiet (first | (go_at_call 102; (with_reducible refine (impl_goodWindow.calls a0_0 a0_1 true _ A4.out).mono ?_); rintro e w' ⟨rfl, ⟨nd, rfl⟩⟩; (try exact dd_)) | (go_at_call 44; (with_reducible refine (impl_GoodSeries.calls k _ _ l0_3 true _ ?side1 ?side2 A6.out).mono ?_); (case side1 => exact cc_ (Kd.C_below HR0_3.out bg_)); (case side2 => exact HC0_3.out); rintro e w10 ⟨rfl, hb⟩; have n0_ := am_ (blk_below (g := gb1001) (vk_ BK1001) hb); have n1_ := am_ (below_step bg_ hb); clear BK1001; clear HB; have BK1001 := n0_; have HB := n1_; clear n0_ n1_; (try clear hb); (try clear hb2); (try clear hk); (try clear hi); have hcz11_0 := bc4_0 BK1001; have hcz11_1 := bc4_1 BK1001; have hcz11_2 := bc4_2 BK1001; have hcz11_3 := bc4_3 BK1001; have hfz11_0 := bf_ BK1001 0; have hfz11_1 := bf_ BK1001 1; have hfz11_2 := bf_ BK1001 2; have hfz11_3 := bf_ BK1001 3)); try go_wp2_with (first | (go_at_call 102; (with_reducible refine (impl_goodWindow.calls a0_0 a0_1 true _ A4.out).mono ?_); rintro e w' ⟨rfl, ⟨nd, rfl⟩⟩; (try exact dd_)) | (go_at_call 44; (with_reducible refine (impl_GoodSeries.calls k _ _ l0_3 true _ ?side1 ?side2 A6.out).mono ?_); (case side1 => exact cc_ (Kd.C_below HR0_3.out bg_)); (case side2 => exact HC0_3.out); rintro e w10 ⟨rfl, hb⟩; have n0_ := am_ (blk_below (g := gb1001) (vk_ BK1001) hb); have n1_ := am_ (below_step bg_ hb); clear BK1001; clear HB; have BK1001 := n0_; have HB := n1_; clear n0_ n1_; (try clear hb); (try clear hb2); (try clear hk); (try clear hi); have hcz11_0 := bc4_0 BK1001; have hcz11_1 := bc4_1 BK1001; have hcz11_2 := bc4_2 BK1001; have hcz11_3 := bc4_3 BK1001; have hfz11_0 := bf_ BK1001 0; have hfz11_1 := bf_ BK1001 1; have hfz11_2 := bf_ BK1001 2; have hfz11_3 := bf_ BK1001 3)))
     go_meet
     case rel => exact ⟨_, (true), rs_, H', ⟨by first | omega | exact Nat.le_refl _⟩, ⟨vk_ BK1001⟩, ⟨bg_⟩⟩
    ·rw [if_neg c8] at H
     have c8b0 : decide (a0_1 < (l0_3.length : Int)) = false := decide_eq_false c8
     clear c8
     (first | rw [c8b0] | (simp only [i64_w, i32_w]; rw [c8b0]) | skip)
     by_cases c12 : a0_2 = (-1)
     ·rw [if_pos c12] at H
      have c12b0 : (a0_2 == (-1)) = true := beq_iff_eq.mpr c12
      have c12b1 : (a0_2 != (-1)) = false := bne_eq_false_iff_eq.mpr c12
      clear c12
      have H' := am_ H
      clear H
      have hcz13_0 := bc4_0 BK1001
      have hcz13_1 := bc4_1 BK1001
      have hcz13_2 := bc4_2 BK1001
      have hcz13_3 := bc4_3 BK1001
      have hfz13_0 := bf_ BK1001 0
      have hfz13_1 := bf_ BK1001 1
      have hfz13_2 := bf_ BK1001 2
      have hfz13_3 := bf_ BK1001 3
      go_wp2_with (first | (go_at_call 102; (with_reducible refine (impl_goodWindow.calls a0_0 a0_1 true _ A4.out).mono ?_); rintro e w' ⟨rfl, ⟨nd, rfl⟩⟩; (try exact dd_)) | (go_at_call 44; (with_reducible refine (impl_GoodSeries.calls k _ _ l0_3 true _ ?side1 ?side2 A6.out).mono ?_); (case side1 => exact cc_ (Kd.C_below HR0_3.out bg_)); (case side2 => exact HC0_3.out); rintro e w14 ⟨rfl, hb⟩; have n0_ := am_ (blk_below (g := gb1001) (vk_ BK1001) hb); have n1_ := am_ (below_step bg_ hb); clear BK1001; clear HB; have BK1001 := n0_; have HB := n1_; clear n0_ n1_; (try clear hb); (try clear hb2); (try clear hk); (try clear hi); have hcz15_0 := bc4_0 BK1001; have hcz15_1 := bc4_1 BK1001; have hcz15_2 := bc4_2 BK1001; have hcz15_3 := bc4_3 BK1001; have hfz15_0 := bf_ BK1001 0; have hfz15_1 := bf_ BK1001 1; have hfz15_2 := bf_ BK1001 2; have hfz15_3 := bf_ BK1001 3))
      repeat (go_quiet (first | (go_at_call 102; (with_reducible refine (impl_goodWindow.calls a0_0 a0_1 true _ A4.out).mono ?_); rintro e w' ⟨rfl, ⟨nd, rfl⟩⟩; (try exact dd_)) | (go_at_call 44; (with_reducible refine (impl_GoodSeries.calls k _ _ l0_3 true _ ?side1 ?side2 A6.out).mono ?_); (case side1 => exact cc_ (Kd.C_below HR0_3.out bg_)); (case side2 => exact HC0_3.out); rintro e w14 ⟨rfl, hb⟩; have n0_ := am_ (blk_below (g := gb1001) (vk_ BK1001) hb); have n1_ := am_ (below_step bg_ hb); clear BK1001; clear HB; have BK1001 := n0_; have HB := n1_; clear n0_ n1_; (try clear hb); (try clear hb2); (try clear hk); (try clear hi); have hcz15_0 := bc4_0 BK1001; have hcz15_1 := bc4_1 BK1001; have hcz15_2 := bc4_2 BK1001; have hcz15_3 := bc4_3 BK1001; have hfz15_0 := bf_ BK1001 0; have hfz15_1 := bf_ BK1001 1; have hfz15_2 := bf_ BK1001 2; have hfz15_3 := bf_ BK1001 3)); try go_wp2_with (first | (go_at_call 102; (with_reducible refine (impl_goodWindow.calls a0_0 a0_1 true _ A4.out).mono ?_); rintro e w' ⟨rfl, ⟨nd, rfl⟩⟩; (try exact dd_)) | (go_at_call 44; (with_reducible refine (impl_GoodSeries.calls k _ _ l0_3 true _ ?side1 ?side2 A6.out).mono ?_); (case side1 => exact cc_ (Kd.C_below HR0_3.out bg_)); (case side2 => exact HC0_3.out); rintro e w14 ⟨rfl, hb⟩; have n0_ := am_ (blk_below (g := gb1001) (vk_ BK1001) hb); have n1_ := am_ (below_step bg_ hb); clear BK1001; clear HB; have BK1001 := n0_; have HB := n1_; clear n0_ n1_; (try clear hb); (try clear hb2); (try clear hk); (try clear hi); have hcz15_0 := bc4_0 BK1001; have hcz15_1 := bc4_1 BK1001; have hcz15_2 := bc4_2 BK1001; have hcz15_3 := bc4_3 BK1001; have hfz15_0 := bf_ BK1001 0; have hfz15_1 := bf_ BK1001 1; have hfz15_2 := bf_ BK1001 2; have hfz15_3 := bf_ BK1001 3)))
      go_meet
      case rel => exact ⟨_, (false), rs_, H', ⟨by first | omega | exact Nat.le_refl _⟩, ⟨vk_ BK1001⟩, ⟨bg_⟩⟩
     ·rw [if_neg c12] at H
      have c12b0 : (a0_2 == (-1)) = false := beq_eq_false_iff_ne.mpr c12
      have c12b1 : (a0_2 != (-1)) = true := bne_iff_ne.mpr c12
      replace H := Option.bind_eq_some_iff.mp H
      obtain ⟨t1004, A160, H⟩ := H
      replace H : (impl_GoodHead.j0 k (!t1004) a0_0 a0_1 a0_2 l0_3) = some r := H
      have A16 := am_ A160
      clear A160
      have H' := am_ H
      clear H
      have hcz17_0 := bc4_0 BK1001
      have hcz17_1 := bc4_1 BK1001
      have hcz17_2 := bc4_2 BK1001
      have hcz17_3 := bc4_3 BK1001
      have hfz17_0 := bf_ BK1001 0
      have hfz17_1 := bf_ BK1001 1
      have hfz17_2 := bf_ BK1001 2
      have hfz17_3 := bf_ BK1001 3
      go_wp2_with (first | (go_at_call 102; (with_reducible refine (impl_goodWindow.calls a0_0 a0_1 true _ A4.out).mono ?_); rintro e w' ⟨rfl, ⟨nd, rfl⟩⟩; (try exact dd_)) | (go_at_call 44; (with_reducible refine (impl_GoodSeries.calls k _ _ l0_3 true _ ?side1 ?side2 A6.out).mono ?_); (case side1 => exact cc_ (Kd.C_below HR0_3.out bg_)); (case side2 => exact HC0_3.out); rintro e w18 ⟨rfl, hb⟩; have n0_ := am_ (blk_below (g := gb1001) (vk_ BK1001) hb); have n1_ := am_ (below_step bg_ hb); clear BK1001; clear HB; have BK1001 := n0_; have HB := n1_; clear n0_ n1_; (try clear hb); (try clear hb2); (try clear hk); (try clear hi); have hcz19_0 := bc4_0 BK1001; have hcz19_1 := bc4_1 BK1001; have hcz19_2 := bc4_2 BK1001; have hcz19_3 := bc4_3 BK1001; have hfz19_0 := bf_ BK1001 0; have hfz19_1 := bf_ BK1001 1; have hfz19_2 := bf_ BK1001 2; have hfz19_3 := bf_ BK1001 3) | (go_at_call 103; (with_reducible refine (impl_isTime.calls a0_2 t1004 _ A16.out).mono ?_); rintro e w' ⟨rfl, ⟨nd, rfl⟩⟩; (try exact dd_)))
      repeat (go_quiet (first | (go_at_call 102; (with_reducible refine (impl_goodWindow.calls a0_0 a0_1 true _ A4.out).mono ?_); rintro e w' ⟨rfl, ⟨nd, rfl⟩⟩; (try exact dd_)) | (go_at_call 44; (with_reducible refine (impl_GoodSeries.calls k _ _ l0_3 true _ ?side1 ?side2 A6.out).mono ?_); (case side1 => exact cc_ (Kd.C_below HR0_3.out bg_)); (case side2 => exact HC0_3.out); rintro e w18 ⟨rfl, hb⟩; have n0_ := am_ (blk_below (g := gb1001) (vk_ BK1001) hb); have n1_ := am_ (below_step bg_ hb); clear BK1001; clear HB; have BK1001 := n0_; have HB := n1_; clear n0_ n1_; (try clear hb); (try clear hb2); (try clear hk); (try clear hi); have hcz19_0 := bc4_0 BK1001; have hcz19_1 := bc4_1 BK1001; have hcz19_2 := bc4_2 BK1001; have hcz19_3 := bc4_3 BK1001; have hfz19_0 := bf_ BK1001 0; have hfz19_1 := bf_ BK1001 1; have hfz19_2 := bf_ BK1001 2; have hfz19_3 := bf_ BK1001 3) | (go_at_call 103; (with_reducible refine (impl_isTime.calls a0_2 t1004 _ A16.out).mono ?_); rintro e w' ⟨rfl, ⟨nd, rfl⟩⟩; (try exact dd_))); try go_wp2_with (first | (go_at_call 102; (with_reducible refine (impl_goodWindow.calls a0_0 a0_1 true _ A4.out).mono ?_); rintro e w' ⟨rfl, ⟨nd, rfl⟩⟩; (try exact dd_)) | (go_at_call 44; (with_reducible refine (impl_GoodSeries.calls k _ _ l0_3 true _ ?side1 ?side2 A6.out).mono ?_); (case side1 => exact cc_ (Kd.C_below HR0_3.out bg_)); (case side2 => exact HC0_3.out); rintro e w18 ⟨rfl, hb⟩; have n0_ := am_ (blk_below (g := gb1001) (vk_ BK1001) hb); have n1_ := am_ (below_step bg_ hb); clear BK1001; clear HB; have BK1001 := n0_; have HB := n1_; clear n0_ n1_; (try clear hb); (try clear hb2); (try clear hk); (try clear hi); have hcz19_0 := bc4_0 BK1001; have hcz19_1 := bc4_1 BK1001; have hcz19_2 := bc4_2 BK1001; have hcz19_3 := bc4_3 BK1001; have hfz19_0 := bf_ BK1001 0; have hfz19_1 := bf_ BK1001 1; have hfz19_2 := bf_ BK1001 2; have hfz19_3 := bf_ BK1001 3) | (go_at_call 103; (with_reducible refine (impl_isTime.calls a0_2 t1004 _ A16.out).mono ?_); rintro e w' ⟨rfl, ⟨nd, rfl⟩⟩; (try exact dd_))))
      go_meet
      case rel => exact ⟨_, (!t1004), rs_, H', ⟨by first | omega | exact Nat.le_refl _⟩, ⟨vk_ BK1001⟩, ⟨bg_⟩⟩
   ·replace c7 := Bool.eq_false_iff.mpr c7
    subst c7
    have H1 : (impl_GoodHead.j0 k true a0_0 a0_1 a0_2 l0_3) = some r := by rw [if_neg (show ¬ (false = true) by decide)] at H; exact H
    clear H
    have H := H1
    clear H1
    have H' := am_ H
    clear H
    have hcz20_0 := bc4_0 BK1001
    have hcz20_1 := bc4_1 BK1001
    have hcz20_2 := bc4_2 BK1001
    have hcz20_3 := bc4_3 BK1001
    have hfz20_0 := bf_ BK1001 0
    have hfz20_1 := bf_ BK1001 1
    have hfz20_2 := bf_ BK1001 2
    have hfz20_3 := bf_ BK1001 3
    go_wp2_with (first | (go_at_call 102; (with_reducible refine (impl_goodWindow.calls a0_0 a0_1 true _ A4.out).mono ?_); rintro e w' ⟨rfl, ⟨nd, rfl⟩⟩; (try exact dd_)) | (go_at_call 44; (with_reducible refine (impl_GoodSeries.calls k _ _ l0_3 false _ ?side1 ?side2 A6.out).mono ?_); (case side1 => exact cc_ (Kd.C_below HR0_3.out bg_)); (case side2 => exact HC0_3.out); rintro e w21 ⟨rfl, hb⟩; have n0_ := am_ (blk_below (g := gb1001) (vk_ BK1001) hb); have n1_ := am_ (below_step bg_ hb); clear BK1001; clear HB; have BK1001 := n0_; have HB := n1_; clear n0_ n1_; (try clear hb); (try clear hb2); (try clear hk); (try clear hi)))
    repeat (go_quiet (first | (go_at_call 102; (with_reducible refine (impl_goodWindow.calls a0_0 a0_1 true _ A4.out).mono ?_); rintro e w' ⟨rfl, ⟨nd, rfl⟩⟩; (try exact dd_)) | (go_at_call 44; (with_reducible refine (impl_GoodSeries.calls k _ _ l0_3 false _ ?side1 ?side2 A6.out).mono ?_); (case side1 => exact cc_ (Kd.C_below HR0_3.out bg_)); (case side2 => exact HC0_3.out); rintro e w21 ⟨rfl, hb⟩; have n0_ := am_ (blk_below (g := gb1001) (vk_ BK1001) hb); have n1_ := am_ (below_step bg_ hb); clear BK1001; clear HB; have BK1001 := n0_; have HB := n1_; clear n0_ n1_; (try clear hb); (try clear hb2); (try clear hk); (try clear hi))); try go_wp2_with (first | (go_at_call 102; (with_reducible refine (impl_goodWindow.calls a0_0 a0_1 true _ A4.out).mono ?_); rintro e w' ⟨rfl, ⟨nd, rfl⟩⟩; (try exact dd_)) | (go_at_call 44; (with_reducible refine (impl_GoodSeries.calls k _ _ l0_3 false _ ?side1 ?side2 A6.out).mono ?_); (case side1 => exact cc_ (Kd.C_below HR0_3.out bg_)); (case side2 => exact HC0_3.out); rintro e w21 ⟨rfl, hb⟩; have n0_ := am_ (blk_below (g := gb1001) (vk_ BK1001) hb); have n1_ := am_ (below_step bg_ hb); clear BK1001; clear HB; have BK1001 := n0_; have HB := n1_; clear n0_ n1_; (try clear hb); (try clear hb2); (try clear hk); (try clear hi))))
    go_meet
    case rel => exact ⟨_, (true), rs_, H', ⟨by first | omega | exact Nat.le_refl _⟩, ⟨vk_ BK1001⟩, ⟨bg_⟩⟩
  ·replace c5 := Bool.eq_false_iff.mpr c5
   subst c5
   have H1 : (impl_GoodHead.j0 k true a0_0 a0_1 a0_2 l0_3) = some r := by rw [if_neg (show ¬ (false = true) by decide)] at H; exact H
   clear H
   have H := H1
   clear H1
   have H' := am_ H
   clear H
   have hcz22_0 := bc4_0 BK1001
   have hcz22_1 := bc4_1 BK1001
   have hcz22_2 := bc4_2 BK1001
   have hcz22_3 := bc4_3 BK1001
   have hfz22_0 := bf_ BK1001 0
   have hfz22_1 := bf_ BK1001 1
   have hfz22_2 := bf_ BK1001 2
   have hfz22_3 := bf_ BK1001 3
   go_wp2_with (first | (go_at_call 102; (with_reducible refine (impl_goodWindow.calls a0_0 a0_1 false _ A4.out).mono ?_); rintro e w' ⟨rfl, ⟨nd, rfl⟩⟩; (try exact dd_)))
   repeat (go_quiet (first | (go_at_call 102; (with_reducible refine (impl_goodWindow.calls a0_0 a0_1 false _ A4.out).mono ?_); rintro e w' ⟨rfl, ⟨nd, rfl⟩⟩; (try exact dd_))); try go_wp2_with (first | (go_at_call 102; (with_reducible refine (impl_goodWindow.calls a0_0 a0_1 false _ A4.out).mono ?_); rintro e w' ⟨rfl, ⟨nd, rfl⟩⟩; (try exact dd_))))
   go_meet
   case rel => exact ⟨_, (true), rs_, H', ⟨by first | omega | exact Nat.le_refl _⟩, ⟨vk_ BK1001⟩, ⟨bg_⟩⟩
 case rest =>
  clear HC2
  try clear c1
  try clear p2
  try clear c5
  try clear c7
  try clear c8
  try clear c8b0
  try clear c12
  try clear c12b0
  try clear c12b1
  try clear hcz11_0
  try clear hcz11_1
  try clear hcz11_2
  try clear hcz11_3
  try clear hcz13_0
  try clear hcz13_1
  try clear hcz13_2
  try clear hcz13_3
  try clear hcz15_0
  try clear hcz15_1
  try clear hcz15_2
  try clear hcz15_3
  try clear hcz17_0
  try clear hcz17_1
  try clear hcz17_2
  try clear hcz17_3
  try clear hcz19_0
  try clear hcz19_1
  try clear hcz19_2
  try clear hcz19_3
  try clear hcz20_0
  try clear hcz20_1
  try clear hcz20_2
  try clear hcz20_3
  try clear hcz22_0
  try clear hcz22_1
  try clear hcz22_2
  try clear hcz22_3
  try clear hcz9_0
  try clear hcz9_1
  try clear hcz9_2
  try clear hcz9_3
  try clear hfz11_0
  try clear hfz11_1
  try clear hfz11_2
  try clear hfz11_3
  try clear hfz13_0
  try clear hfz13_1
  try clear hfz13_2
  try clear hfz13_3
  try clear hfz15_0
  try clear hfz15_1
  try clear hfz15_2
  try clear hfz15_3
  try clear hfz17_0
  try clear hfz17_1
  try clear hfz17_2
  try clear hfz17_3
  try clear hfz19_0
  try clear hfz19_1
  try clear hfz19_2
  try clear hfz19_3
  try clear hfz20_0
  try clear hfz20_1
  try clear hfz20_2
  try clear hfz20_3
  try clear hfz22_0
  try clear hfz22_1
  try clear hfz22_2
  try clear hfz22_3
  try clear hfz9_0
  try clear hfz9_1
  try clear hfz9_2
  try clear hfz9_3
  obtain ⟨kq, x35_1, rfl, HA, HJ1, BK1001, HB⟩ := hcut
  cases kq with
  | zero => exact absurd HA.out (by simp [impl_GoodHead.j0])
  | succ kj1 =>
   have H := HA.out
   clear HA
   simp only [impl_GoodHead.j0] at H
   by_cases c23 : x35_1 = true
   ·subst c23
    have H1 : (some false) = some r := by rw [if_pos rfl] at H; exact H
    clear H
    have H := H1
    clear H1
    obtain rfl := Option.some.inj H
    go_wp2
    repeat (go_quiet (fail); try go_wp2)
    go_ret
    exact ⟨rf_, bg_⟩
   ·replace c23 := Bool.eq_false_iff.mpr c23
    subst c23
    have H1 : (impl_GoodHead.l0 kj1 l0_3 (l0_3.length : Int) 0 a0_0 a0_1 a0_2 l0_3) = some r := by rw [if_neg (show ¬ (false = true) by decide)] at H; exact H
    clear H
    have H := H1
    clear H1
    have H' := am_ H
    clear H
    have hcz24_0 := bc4_0 BK1001
    have hcz24_1 := bc4_1 BK1001
    have hcz24_2 := bc4_2 BK1001
    have hcz24_3 := bc4_3 BK1001
    have hfz24_0 := bf_ BK1001 0
    have hfz24_1 := bf_ BK1001 1
    have hfz24_2 := bf_ BK1001 2
    have hfz24_3 := bf_ BK1001 3
    go_wp2
    repeat (go_quiet (fail); try go_wp2)
    go_loopg [39] kj1 (fun kq v39 w' => ∃ (x39_2 : Int), v39 = .int .i64 x39_2 ∧ Aside0 (impl_GoodHead.l0 kq l0_3 (l0_3.length : Int) x39_2 a0_0 a0_1 a0_2 l0_3 = some r) ∧ Aside0 (kq ≤ kj1) ∧ Aside0 (w'.heap[gb1001]? = some (.cells #[.int .i64 a0_0, .int .i64 a0_1, .int .i64 a0_2, (.slice A0_3 l0_3.length c0_3)] 65 (0, 0))) ∧ Aside0 (Below w.heap.size w w'))
    case atStart => exact ⟨(0), rs_, H', ⟨Nat.le_refl _⟩, ⟨vk_ BK1001⟩, ⟨bg_⟩⟩
    case round =>
     clear H'
     try clear c1
     try clear c2
     try clear p2
     try clear c5
     try clear c7
     try clear c8
     try clear c8b0
     try clear c12
     try clear c12b0
     try clear c12b1
     try clear c23
     try clear hcz11_0
     try clear hcz11_1
     try clear hcz11_2
     try clear hcz11_3
     try clear hcz13_0
     try clear hcz13_1
     try clear hcz13_2
     try clear hcz13_3
     try clear hcz15_0
     try clear hcz15_1
     try clear hcz15_2
     try clear hcz15_3
     try clear hcz17_0
     try clear hcz17_1
     try clear hcz17_2
     try clear hcz17_3
     try clear hcz19_0
     try clear hcz19_1
     try clear hcz19_2
     try clear hcz19_3
     try clear hcz20_0
     try clear hcz20_1
     try clear hcz20_2
     try clear hcz20_3
     try clear hcz22_0
     try clear hcz22_1
     try clear hcz22_2
     try clear hcz22_3
     try clear hcz24_0
     try clear hcz24_1
     try clear hcz24_2
     try clear hcz24_3
     try clear hcz9_0
     try clear hcz9_1
     try clear hcz9_2
     try clear hcz9_3
     try clear hfz11_0
     try clear hfz11_1
     try clear hfz11_2
     try clear hfz11_3
     try clear hfz13_0
     try clear hfz13_1
     try clear hfz13_2
     try clear hfz13_3
     try clear hfz15_0
     try clear hfz15_1
     try clear hfz15_2
     try clear hfz15_3
     try clear hfz17_0
     try clear hfz17_1
     try clear hfz17_2
     try clear hfz17_3
     try clear hfz19_0
     try clear hfz19_1
     try clear hfz19_2
     try clear hfz19_3
     try clear hfz20_0
     try clear hfz20_1
     try clear hfz20_2
     try clear hfz20_3
     try clear hfz22_0
     try clear hfz22_1
     try clear hfz22_2
     try clear hfz22_3
     try clear hfz24_0
     try clear hfz24_1
     try clear hfz24_2
     try clear hfz24_3
     try clear hfz9_0
     try clear hfz9_1
     try clear hfz9_2
     try clear hfz9_3
     try clear p2
     obtain ⟨x39_2, rfl, HA, HK2, BK1001, HB⟩ := hrel
     cases gk with
     | zero => exact absurd HA.out (by simp [impl_GoodHead.l0])
     | succ k2 =>
      have H := HA.out
      clear HA
      simp only [impl_GoodHead.l0] at H
      by_cases c25 : x39_2 < (l0_3.length : Int)
      ·rw [if_pos c25] at H
       have c25b0 : decide (x39_2 < (l0_3.length : Int)) = true := decide_eq_true c25
       clear c25
       by_cases c26 : 0 ≤ x39_2
       ·rw [if_pos c26] at H
        have c26b0 : decide (0 ≤ x39_2) = true := decide_eq_true c26
        clear c26
        by_cases c27 : x39_2 < (l0_3.length : Int)
        ·rw [if_pos c27] at H
         have c27b0 : decide (x39_2 < (l0_3.length : Int)) = true := decide_eq_true c27
         clear c27
         obtain ⟨ji28, hji28⟩ : ∃ j_ : Int, (wrap64 ((((rd_T103 l0_3 x39_2).f1).length : Int) - 1)) = j_ := ⟨_, rfl⟩
         replace H : (if 0 ≤ (ji28) then (if (ji28) < (((rd_T103 l0_3 x39_2).f1).length : Int) then (if ((rd_T115 ((rd_T103 l0_3 x39_2).f1) (ji28)).f0) > a0_2 then (some false) else (impl_GoodHead.l0 k2 l0_3 (l0_3.length : Int) (wrap64 (x39_2 + 1)) a0_0 a0_1 a0_2 l0_3)) else (none)) else (none)) = some r := by first | (rw [hji28] at H; exact H) | (simp only [hji28] at H ⊢; exact H)
         have hji28w : (IntKind.i64.wrap ((((rd_T103 l0_3 x39_2).f1).length : Int) - 1)) = ji28 := (i64_w _).trans hji28
         by_cases c29 : 0 ≤ (ji28)
         ·rw [if_pos c29] at H
          have c29b0 : decide (0 ≤ (ji28)) = true := decide_eq_true c29
          clear c29
          by_cases c30 : (ji28) < (((rd_T103 l0_3 x39_2).f1).length : Int)
          ·rw [if_pos c30] at H
           have c30b0 : decide ((ji28) < (((rd_T103 l0_3 x39_2).f1).length : Int)) = true := decide_eq_true c30
           clear c30
           by_cases c31 : ((rd_T115 ((rd_T103 l0_3 x39_2).f1) (ji28)).f0) > a0_2
           ·rw [if_pos c31] at H
            have c31b0 : decide (a0_2 < ((rd_T115 ((rd_T103 l0_3 x39_2).f1) (ji28)).f0)) = true := decide_eq_true c31
            clear c31
            obtain rfl := Option.some.inj H
            have p1005 : 0 ≤ (x39_2 : Int) := od_
            have q1005 : x39_2 < (l0_3.length : Int) := od_
            obtain ⟨ad1005, A1005_0, c1005_0, A1005_1, c1005_1, e1005, hx1005_0, hx1005_1, hl1005_0, hi1005_0, hl1005_1, hi1005_1⟩ := at_T103 HR0_3.out x39_2 p1005 q1005
            cases e1005
            replace hx1005_0 := kp_ HB hx1005_0
            replace hx1005_1 := kp_ HB hx1005_1
            have HR1005_0 := am_ hi1005_0
            have HC1005_0 := am_ hl1005_0
            clear hi1005_0 hl1005_0
            have HR1005_1 := am_ hi1005_1
            have HC1005_1 := am_ hl1005_1
            clear hi1005_1 hl1005_1
            replace p1005 := eq_true p1005
            replace q1005 := eq_true q1005
            go_wp2_with (first | ((with_reducible refine gate_dst (N := 4) rfl ?_); (try (refine gate_guard (by rfl) ?_; dsimp only)); refine box_event ?hg (N := 4) ?hd (cs := #[.slice none 0 0, .slice none 0 0]) (t := 103) ?hr ?_; (case hd => rfl); (case hg => rfl); (case hr => first | (go_simp; done) | (go_simp; rfl)); intro gb1006 hg w32 hbox hb; have n0_ := am_ (blk_below (g := gb1001) (vk_ BK1001) hb); have n1_ := am_ (below_step bg_ hb); have n2_ := am_ (hbox); have n3_ := am_ (gg_ hg : w.heap.size ≤ gb1006); have n4_ := n3_; have n5_ := am_ ((by rw [hg]; exact Nat.ne_of_lt (blk_lt (g := gb1001) (o := .cells #[.int .i64 a0_0, .int .i64 a0_1, .int .i64 a0_2, .slice (some ad1005) l0_3.length c0_3] 65 (0, 0)) (vk_ BK1001)) : gb1001 ≠ gb1006)); have n6_ := am_ ((by rw [hg]; exact Nat.ne_of_gt (blk_lt (g := gb1001) (o := .cells #[.int .i64 a0_0, .int .i64 a0_1, .int .i64 a0_2, .slice (some ad1005) l0_3.length c0_3] 65 (0, 0)) (vk_ BK1001)) : gb1006 ≠ gb1001)); clear BK1001; clear HB; have BK1001 := n0_; have HB := n1_; have BK1006 := n2_; have GW1006 := n3_; have GE1006 := n4_; have NB1001_1006 := n5_; have NB1006_1001 := n6_; clear n0_ n1_ n2_ n3_ n4_ n5_ n6_; clear hb hbox hg; have hnb33 := NB1006_1001.out; have hnc33 := NB1001_1006.out; have hcz34_0 := bc2_0 BK1006; have hcz34_1 := bc2_1 BK1006; have hfz34_0 := bf_ BK1006 0; have hfz34_1 := bf_ BK1006 1; have p1007 : 0 ≤ ((ji28) : Int) := od_; have q1007 : (ji28) < (((rd_T103 l0_3 x39_2).f1).length : Int) := od_; obtain ⟨ad1007, e1007, hx1007_0, hx1007_1⟩ := at_T115 HR1005_1.out (ji28) p1007 q1007; cases e1007; have hn1007_0 : ad1007.block ≠ gb1006 := hb_ hx1007_0 GW1006; have hn1007_1 : ad1007.block ≠ gb1006 := hb_ hx1007_0 GW1006; replace hx1007_0 := kp_ HB hx1007_0; replace hx1007_1 := kp_ HB hx1007_1; replace hx1007_0 := cf_ gb1006 0 hn1007_0 (.slice A1005_0 ((rd_T103 l0_3 x39_2).f0).length c1005_0) hx1007_0; replace hx1007_1 := cf_ gb1006 0 hn1007_0 (.slice A1005_0 ((rd_T103 l0_3 x39_2).f0).length c1005_0) hx1007_1; replace hx1007_0 := cf_ gb1006 1 hn1007_1 (.slice (some ad1007) ((rd_T103 l0_3 x39_2).f1).length c1005_1) hx1007_0; replace hx1007_1 := cf_ gb1006 1 hn1007_1 (.slice (some ad1007) ((rd_T103 l0_3 x39_2).f1).length c1005_1) hx1007_1; (try have hy1007_0 := fun (n_ : Nat) => (show ((((w32.drewN n_).setCell ⟨gb1006, 0, none⟩ (.slice A1005_0 ((rd_T103 l0_3 x39_2).f0).length c1005_0)).setCell ⟨gb1006, 1, none⟩ (.slice (some ad1007) ((rd_T103 l0_3 x39_2).f1).length c1005_1))).cell? _ = some _ from hx1007_0)); (try have hy1007_1 := fun (n_ : Nat) => (show ((((w32.drewN n_).setCell ⟨gb1006, 0, none⟩ (.slice A1005_0 ((rd_T103 l0_3 x39_2).f0).length c1005_0)).setCell ⟨gb1006, 1, none⟩ (.slice (some ad1007) ((rd_T103 l0_3 x39_2).f1).length c1005_1))).cell? _ = some _ from hx1007_1)); clear hn1007_0; clear hn1007_1; replace p1007 := eq_true p1007; replace q1007 := eq_true q1007; have hcz35_0 := bc4_0 BK1001; have hcz35_1 := bc4_1 BK1001; have hcz35_2 := bc4_2 BK1001; have hcz35_3 := bc4_3 BK1001; have hfz35_0 := bf_ BK1001 0; have hfz35_1 := bf_ BK1001 1; have hfz35_2 := bf_ BK1001 2; have hfz35_3 := bf_ BK1001 3))
            repeat (go_quiet (first | ((with_reducible refine gate_dst (N := 4) rfl ?_); (try (refine gate_guard (by rfl) ?_; dsimp only)); refine box_event ?hg (N := 4) ?hd (cs := #[.slice none 0 0, .slice none 0 0]) (t := 103) ?hr ?_; (case hd => rfl); (case hg => rfl); (case hr => first | (go_simp; done) | (go_simp; rfl)); intro gb1006 hg w32 hbox hb; have n0_ := am_ (blk_below (g := gb1001) (vk_ BK1001) hb); have n1_ := am_ (below_step bg_ hb); have n2_ := am_ (hbox); have n3_ := am_ (gg_ hg : w.heap.size ≤ gb1006); have n4_ := n3_; have n5_ := am_ ((by rw [hg]; exact Nat.ne_of_lt (blk_lt (g := gb1001) (o := .cells #[.int .i64 a0_0, .int .i64 a0_1, .int .i64 a0_2, .slice (some ad1005) l0_3.length c0_3] 65 (0, 0)) (vk_ BK1001)) : gb1001 ≠ gb1006)); have n6_ := am_ ((by rw [hg]; exact Nat.ne_of_gt (blk_lt (g := gb1001) (o := .cells #[.int .i64 a0_0, .int .i64 a0_1, .int .i64 a0_2, .slice (some ad1005) l0_3.length c0_3] 65 (0, 0)) (vk_ BK1001)) : gb1006 ≠ gb1001)); clear BK1001; clear HB; have BK1001 := n0_; have HB := n1_; have BK1006 := n2_; have GW1006 := n3_; have GE1006 := n4_; have NB1001_1006 := n5_; have NB1006_1001 := n6_; clear n0_ n1_ n2_ n3_ n4_ n5_ n6_; clear hb hbox hg; have hnb33 := NB1006_1001.out; have hnc33 := NB1001_1006.out; have hcz34_0 := bc2_0 BK1006; have hcz34_1 := bc2_1 BK1006; have hfz34_0 := bf_ BK1006 0; have hfz34_1 := bf_ BK1006 1; have p1007 : 0 ≤ ((ji28) : Int) := od_; have q1007 : (ji28) < (((rd_T103 l0_3 x39_2).f1).length : Int) := od_; obtain ⟨ad1007, e1007, hx1007_0, hx1007_1⟩ := at_T115 HR1005_1.out (ji28) p1007 q1007; cases e1007; have hn1007_0 : ad1007.block ≠ gb1006 := hb_ hx1007_0 GW1006; have hn1007_1 : ad1007.block ≠ gb1006 := hb_ hx1007_0 GW1006; replace hx1007_0 := kp_ HB hx1007_0; replace hx1007_1 := kp_ HB hx1007_1; replace hx1007_0 := cf_ gb1006 0 hn1007_0 (.slice A1005_0 ((rd_T103 l0_3 x39_2).f0).length c1005_0) hx1007_0; replace hx1007_1 := cf_ gb1006 0 hn1007_0 (.slice A1005_0 ((rd_T103 l0_3 x39_2).f0).length c1005_0) hx1007_1; replace hx1007_0 := cf_ gb1006 1 hn1007_1 (.slice (some ad1007) ((rd_T103 l0_3 x39_2).f1).length c1005_1) hx1007_0; replace hx1007_1 := cf_ gb1006 1 hn1007_1 (.slice (some ad1007) ((rd_T103 l0_3 x39_2).f1).length c1005_1) hx1007_1; (try have hy1007_0 := fun (n_ : Nat) => (show ((((w32.drewN n_).setCell ⟨gb1006, 0, none⟩ (.slice A1005_0 ((rd_T103 l0_3 x39_2).f0).length c1005_0)).setCell ⟨gb1006, 1, none⟩ (.slice (some ad1007) ((rd_T103 l0_3 x39_2).f1).length c1005_1))).cell? _ = some _ from hx1007_0)); (try have hy1007_1 := fun (n_ : Nat) => (show ((((w32.drewN n_).setCell ⟨gb1006, 0, none⟩ (.slice A1005_0 ((rd_T103 l0_3 x39_2).f0).length c1005_0)).setCell ⟨gb1006, 1, none⟩ (.slice (some ad1007) ((rd_T103 l0_3 x39_2).f1).length c1005_1))).cell? _ = some _ from hx1007_1)); clear hn1007_0; clear hn1007_1; replace p1007 := eq_true p1007; replace q1007 := eq_true q1007; have hcz35_0 := bc4_0 BK1001; have hcz35_1 := bc4_1 BK1001; have hcz35_2 := bc4_2 BK1001; have hcz35_3 := bc4_3 BK1001; have hfz35_0 := bf_ BK1001 0; have hfz35_1 := bf_ BK1001 1; have hfz35_2 := bf_ BK1001 2; have hfz35_3 := bf_ BK1001 3)); try go_wp2_with (first | ((with_reducible refine gate_dst (N := 4) rfl ?_); (try (refine gate_guard (by rfl) ?_; dsimp only)); refine box_event ?hg (N := 4) ?hd (cs := #[.slice none 0 0, .slice none 0 0]) (t := 103) ?hr ?_; (case hd => rfl); (case hg => rfl); (case hr => first | (go_simp; done) | (go_simp; rfl)); intro gb1006 hg w32 hbox hb; have n0_ := am_ (blk_below (g := gb1001) (vk_ BK1001) hb); have n1_ := am_ (below_step bg_ hb); have n2_ := am_ (hbox); have n3_ := am_ (gg_ hg : w.heap.size ≤ gb1006); have n4_ := n3_; have n5_ := am_ ((by rw [hg]; exact Nat.ne_of_lt (blk_lt (g := gb1001) (o := .cells #[.int .i64 a0_0, .int .i64 a0_1, .int .i64 a0_2, .slice (some ad1005) l0_3.length c0_3] 65 (0, 0)) (vk_ BK1001)) : gb1001 ≠ gb1006)); have n6_ := am_ ((by rw [hg]; exact Nat.ne_of_gt (blk_lt (g := gb1001) (o := .cells #[.int .i64 a0_0, .int .i64 a0_1, .int .i64 a0_2, .slice (some ad1005) l0_3.length c0_3] 65 (0, 0)) (vk_ BK1001)) : gb1006 ≠ gb1001)); clear BK1001; clear HB; have BK1001 := n0_; have HB := n1_; have BK1006 := n2_; have GW1006 := n3_; have GE1006 := n4_; have NB1001_1006 := n5_; have NB1006_1001 := n6_; clear n0_ n1_ n2_ n3_ n4_ n5_ n6_; clear hb hbox hg; have hnb33 := NB1006_1001.out; have hnc33 := NB1001_1006.out; have hcz34_0 := bc2_0 BK1006; have hcz34_1 := bc2_1 BK1006; have hfz34_0 := bf_ BK1006 0; have hfz34_1 := bf_ BK1006 1; have p1007 : 0 ≤ ((ji28) : Int) := od_; have q1007 : (ji28) < (((rd_T103 l0_3 x39_2).f1).length : Int) := od_; obtain ⟨ad1007, e1007, hx1007_0, hx1007_1⟩ := at_T115 HR1005_1.out (ji28) p1007 q1007; cases e1007; have hn1007_0 : ad1007.block ≠ gb1006 := hb_ hx1007_0 GW1006; have hn1007_1 : ad1007.block ≠ gb1006 := hb_ hx1007_0 GW1006; replace hx1007_0 := kp_ HB hx1007_0; replace hx1007_1 := kp_ HB hx1007_1; replace hx1007_0 := cf_ gb1006 0 hn1007_0 (.slice A1005_0 ((rd_T103 l0_3 x39_2).f0).length c1005_0) hx1007_0; replace hx1007_1 := cf_ gb1006 0 hn1007_0 (.slice A1005_0 ((rd_T103 l0_3 x39_2).f0).length c1005_0) hx1007_1; replace hx1007_0 := cf_ gb1006 1 hn1007_1 (.slice (some ad1007) ((rd_T103 l0_3 x39_2).f1).length c1005_1) hx1007_0; replace hx1007_1 := cf_ gb1006 1 hn1007_1 (.slice (some ad1007) ((rd_T103 l0_3 x39_2).f1).length c1005_1) hx1007_1; (try have hy1007_0 := fun (n_ : Nat) => (show ((((w32.drewN n_).setCell ⟨gb1006, 0, none⟩ (.slice A1005_0 ((rd_T103 l0_3 x39_2).f0).length c1005_0)).setCell ⟨gb1006, 1, none⟩ (.slice (some ad1007) ((rd_T103 l0_3 x39_2).f1).length c1005_1))).cell? _ = some _ from hx1007_0)); (try have hy1007_1 := fun (n_ : Nat) => (show ((((w32.drewN n_).setCell ⟨gb1006, 0, none⟩ (.slice A1005_0 ((rd_T103 l0_3 x39_2).f0).length c1005_0)).setCell ⟨gb1006, 1, none⟩ (.slice (some ad1007) ((rd_T103 l0_3 x39_2).f1).length c1005_1))).cell? _ = some _ from hx1007_1)); clear hn1007_0; clear hn1007_1; replace p1007 := eq_true p1007; replace q1007 := eq_true q1007; have hcz35_0 := bc4_0 BK1001; have hcz35_1 := bc4_1 BK1001; have hcz35_2 := bc4_2 BK1001; have hcz35_3 := bc4_3 BK1001; have hfz35_0 := bf_ BK1001 0; have hfz35_1 := bf_ BK1001 1; have hfz35_2 := bf_ BK1001 2; have hfz35_3 := bf_ BK1001 3)))
            go_ret
            exact ⟨by first | rfl | (simp [errW_none, errW_some] <;> rfl) | (simp only [← hji28]; first | rfl | (simp [errW_none, errW_some] <;> rfl)) | (simp [*, errW_none, errW_some] <;> rfl) | (simp [*, Go.Proofs.Ythgeohdpjedhnaa.Gt.nil_bne]; done), bg_⟩
           ·rw [if_neg c31] at H
            have c31b0 : decide (a0_2 < ((rd_T115 ((rd_T103 l0_3 x39_2).f1) (ji28)).f0)) = false := decide_eq_false c31
            clear c31
            have H' := am_ H
            clear H
            have p1005 : 0 ≤ (x39_2 : Int) := od_
            have q1005 : x39_2 < (l0_3.length : Int) := od_
            obtain ⟨ad1005, A1005_0, c1005_0, A1005_1, c1005_1, e1005, hx1005_0, hx1005_1, hl1005_0, hi1005_0, hl1005_1, hi1005_1⟩ := at_T103 HR0_3.out x39_2 p1005 q1005
            cases e1005
            replace hx1005_0 := kp_ HB hx1005_0
            replace hx1005_1 := kp_ HB hx1005_1
            have HR1005_0 := am_ hi1005_0
            have HC1005_0 := am_ hl1005_0
            clear hi1005_0 hl1005_0
            have HR1005_1 := am_ hi1005_1
            have HC1005_1 := am_ hl1005_1
            clear hi1005_1 hl1005_1
            replace p1005 := eq_true p1005
            replace q1005 := eq_true q1005
            go_wp2_with (first | ((with_reducible refine gate_dst (N := 4) rfl ?_); (try (refine gate_guard (by rfl) ?_; dsimp only)); refine box_event ?hg (N := 4) ?hd (cs := #[.slice none 0 0, .slice none 0 0]) (t := 103) ?hr ?_; (case hd => rfl); (case hg => rfl); (case hr => first | (go_simp; done) | (go_simp; rfl)); intro gb1006 hg w36 hbox hb; have n0_ := am_ (blk_below (g := gb1001) (vk_ BK1001) hb); have n1_ := am_ (below_step bg_ hb); have n2_ := am_ (hbox); have n3_ := am_ (gg_ hg : w.heap.size ≤ gb1006); have n4_ := n3_; have n5_ := am_ ((by rw [hg]; exact Nat.ne_of_lt (blk_lt (g := gb1001) (o := .cells #[.int .i64 a0_0, .int .i64 a0_1, .int .i64 a0_2, .slice (some ad1005) l0_3.length c0_3] 65 (0, 0)) (vk_ BK1001)) : gb1001 ≠ gb1006)); have n6_ := am_ ((by rw [hg]; exact Nat.ne_of_gt (blk_lt (g := gb1001) (o := .cells #[.int .i64 a0_0, .int .i64 a0_1, .int .i64 a0_2, .slice (some ad1005) l0_3.length c0_3] 65 (0, 0)) (vk_ BK1001)) : gb1006 ≠ gb1001)); clear BK1001; clear HB; have BK1001 := n0_; have HB := n1_; have BK1006 := n2_; have GW1006 := n3_; have GE1006 := n4_; have NB1001_1006 := n5_; have NB1006_1001 := n6_; clear n0_ n1_ n2_ n3_ n4_ n5_ n6_; clear hb hbox hg; have hnb37 := NB1006_1001.out; have hnc37 := NB1001_1006.out; have hcz38_0 := bc2_0 BK1006; have hcz38_1 := bc2_1 BK1006; have hfz38_0 := bf_ BK1006 0; have hfz38_1 := bf_ BK1006 1; have p1007 : 0 ≤ ((ji28) : Int) := od_; have q1007 : (ji28) < (((rd_T103 l0_3 x39_2).f1).length : Int) := od_; obtain ⟨ad1007, e1007, hx1007_0, hx1007_1⟩ := at_T115 HR1005_1.out (ji28) p1007 q1007; cases e1007; have hn1007_0 : ad1007.block ≠ gb1006 := hb_ hx1007_0 GW1006; have hn1007_1 : ad1007.block ≠ gb1006 := hb_ hx1007_0 GW1006; replace hx1007_0 := kp_ HB hx1007_0; replace hx1007_1 := kp_ HB hx1007_1; replace hx1007_0 := cf_ gb1006 0 hn1007_0 (.slice A1005_0 ((rd_T103 l0_3 x39_2).f0).length c1005_0) hx1007_0; replace hx1007_1 := cf_ gb1006 0 hn1007_0 (.slice A1005_0 ((rd_T103 l0_3 x39_2).f0).length c1005_0) hx1007_1; replace hx1007_0 := cf_ gb1006 1 hn1007_1 (.slice (some ad1007) ((rd_T103 l0_3 x39_2).f1).length c1005_1) hx1007_0; replace hx1007_1 := cf_ gb1006 1 hn1007_1 (.slice (some ad1007) ((rd_T103 l0_3 x39_2).f1).length c1005_1) hx1007_1; (try have hy1007_0 := fun (n_ : Nat) => (show ((((w36.drewN n_).setCell ⟨gb1006, 0, none⟩ (.slice A1005_0 ((rd_T103 l0_3 x39_2).f0).length c1005_0)).setCell ⟨gb1006, 1, none⟩ (.slice (some ad1007) ((rd_T103 l0_3 x39_2).f1).length c1005_1))).cell? _ = some _ from hx1007_0)); (try have hy1007_1 := fun (n_ : Nat) => (show ((((w36.drewN n_).setCell ⟨gb1006, 0, none⟩ (.slice A1005_0 ((rd_T103 l0_3 x39_2).f0).length c1005_0)).setCell ⟨gb1006, 1, none⟩ (.slice (some ad1007) ((rd_T103 l0_3 x39_2).f1).length c1005_1))).cell? _ = some _ from hx1007_1)); clear hn1007_0; clear hn1007_1; replace p1007 := eq_true p1007; replace q1007 := eq_true q1007; have hcz39_0 := bc4_0 BK1001; have hcz39_1 := bc4_1 BK1001; have hcz39_2 := bc4_2 BK1001; have hcz39_3 := bc4_3 BK1001; have hfz39_0 := bf_ BK1001 0; have hfz39_1 := bf_ BK1001 1; have hfz39_2 := bf_ BK1001 2; have hfz39_3 := bf_ BK1001 3))
            repeat (go_quiet (first | ((with_reducible refine gate_dst (N := 4) rfl ?_); (try (refine gate_guard (by rfl) ?_; dsimp only)); refine box_event ?hg (N := 4) ?hd (cs := #[.slice none 0 0, .slice none 0 0]) (t := 103) ?hr ?_; (case hd => rfl); (case hg => rfl); (case hr => first | (go_simp; done) | (go_simp; rfl)); intro gb1006 hg w36 hbox hb; have n0_ := am_ (blk_below (g := gb1001) (vk_ BK1001) hb); have n1_ := am_ (below_step bg_ hb); have n2_ := am_ (hbox); have n3_ := am_ (gg_ hg : w.heap.size ≤ gb1006); have n4_ := n3_; have n5_ := am_ ((by rw [hg]; exact Nat.ne_of_lt (blk_lt (g := gb1001) (o := .cells #[.int .i64 a0_0, .int .i64 a0_1, .int .i64 a0_2, .slice (some ad1005) l0_3.length c0_3] 65 (0, 0)) (vk_ BK1001)) : gb1001 ≠ gb1006)); have n6_ := am_ ((by rw [hg]; exact Nat.ne_of_gt (blk_lt (g := gb1001) (o := .cells #[.int .i64 a0_0, .int .i64 a0_1, .int .i64 a0_2, .slice (some ad1005) l0_3.length c0_3] 65 (0, 0)) (vk_ BK1001)) : gb1006 ≠ gb1001)); clear BK1001; clear HB; have BK1001 := n0_; have HB := n1_; have BK1006 := n2_; have GW1006 := n3_; have GE1006 := n4_; have NB1001_1006 := n5_; have NB1006_1001 := n6_; clear n0_ n1_ n2_ n3_ n4_ n5_ n6_; clear hb hbox hg; have hnb37 := NB1006_1001.out; have hnc37 := NB1001_1006.out; have hcz38_0 := bc2_0 BK1006; have hcz38_1 := bc2_1 BK1006; have hfz38_0 := bf_ BK1006 0; have hfz38_1 := bf_ BK1006 1; have p1007 : 0 ≤ ((ji28) : Int) := od_; have q1007 : (ji28) < (((rd_T103 l0_3 x39_2).f1).length : Int) := od_; obtain ⟨ad1007, e1007, hx1007_0, hx1007_1⟩ := at_T115 HR1005_1.out (ji28) p1007 q1007; cases e1007; have hn1007_0 : ad1007.block ≠ gb1006 := hb_ hx1007_0 GW1006; have hn1007_1 : ad1007.block ≠ gb1006 := hb_ hx1007_0 GW1006; replace hx1007_0 := kp_ HB hx1007_0; replace hx1007_1 := kp_ HB hx1007_1; replace hx1007_0 := cf_ gb1006 0 hn1007_0 (.slice A1005_0 ((rd_T103 l0_3 x39_2).f0).length c1005_0) hx1007_0; replace hx1007_1 := cf_ gb1006 0 hn1007_0 (.slice A1005_0 ((rd_T103 l0_3 x39_2).f0).length c1005_0) hx1007_1; replace hx1007_0 := cf_ gb1006 1 hn1007_1 (.slice (some ad1007) ((rd_T103 l0_3 x39_2).f1).length c1005_1) hx1007_0; replace hx1007_1 := cf_ gb1006 1 hn1007_1 (.slice (some ad1007) ((rd_T103 l0_3 x39_2).f1).length c1005_1) hx1007_1; (try have hy1007_0 := fun (n_ : Nat) => (show ((((w36.drewN n_).setCell ⟨gb1006, 0, none⟩ (.slice A1005_0 ((rd_T103 l0_3 x39_2).f0).length c1005_0)).setCell ⟨gb1006, 1, none⟩ (.slice (some ad1007) ((rd_T103 l0_3 x39_2).f1).length c1005_1))).cell? _ = some _ from hx1007_0)); (try have hy1007_1 := fun (n_ : Nat) => (show ((((w36.drewN n_).setCell ⟨gb1006, 0, none⟩ (.slice A1005_0 ((rd_T103 l0_3 x39_2).f0).length c1005_0)).setCell ⟨gb1006, 1, none⟩ (.slice (some ad1007) ((rd_T103 l0_3 x39_2).f1).length c1005_1))).cell? _ = some _ from hx1007_1)); clear hn1007_0; clear hn1007_1; replace p1007 := eq_true p1007; replace q1007 := eq_true q1007; have hcz39_0 := bc4_0 BK1001; have hcz39_1 := bc4_1 BK1001; have hcz39_2 := bc4_2 BK1001; have hcz39_3 := bc4_3 BK1001; have hfz39_0 := bf_ BK1001 0; have hfz39_1 := bf_ BK1001 1; have hfz39_2 := bf_ BK1001 2; have hfz39_3 := bf_ BK1001 3)); try go_wp2_with (first | ((with_reducible refine gate_dst (N := 4) rfl ?_); (try (refine gate_guard (by rfl) ?_; dsimp only)); refine box_event ?hg (N := 4) ?hd (cs := #[.slice none 0 0, .slice none 0 0]) (t := 103) ?hr ?_; (case hd => rfl); (case hg => rfl); (case hr => first | (go_simp; done) | (go_simp; rfl)); intro gb1006 hg w36 hbox hb; have n0_ := am_ (blk_below (g := gb1001) (vk_ BK1001) hb); have n1_ := am_ (below_step bg_ hb); have n2_ := am_ (hbox); have n3_ := am_ (gg_ hg : w.heap.size ≤ gb1006); have n4_ := n3_; have n5_ := am_ ((by rw [hg]; exact Nat.ne_of_lt (blk_lt (g := gb1001) (o := .cells #[.int .i64 a0_0, .int .i64 a0_1, .int .i64 a0_2, .slice (some ad1005) l0_3.length c0_3] 65 (0, 0)) (vk_ BK1001)) : gb1001 ≠ gb1006)); have n6_ := am_ ((by rw [hg]; exact Nat.ne_of_gt (blk_lt (g := gb1001) (o := .cells #[.int .i64 a0_0, .int .i64 a0_1, .int .i64 a0_2, .slice (some ad1005) l0_3.length c0_3] 65 (0, 0)) (vk_ BK1001)) : gb1006 ≠ gb1001)); clear BK1001; clear HB; have BK1001 := n0_; have HB := n1_; have BK1006 := n2_; have GW1006 := n3_; have GE1006 := n4_; have NB1001_1006 := n5_; have NB1006_1001 := n6_; clear n0_ n1_ n2_ n3_ n4_ n5_ n6_; clear hb hbox hg; have hnb37 := NB1006_1001.out; have hnc37 := NB1001_1006.out; have hcz38_0 := bc2_0 BK1006; have hcz38_1 := bc2_1 BK1006; have hfz38_0 := bf_ BK1006 0; have hfz38_1 := bf_ BK1006 1; have p1007 : 0 ≤ ((ji28) : Int) := od_; have q1007 : (ji28) < (((rd_T103 l0_3 x39_2).f1).length : Int) := od_; obtain ⟨ad1007, e1007, hx1007_0, hx1007_1⟩ := at_T115 HR1005_1.out (ji28) p1007 q1007; cases e1007; have hn1007_0 : ad1007.block ≠ gb1006 := hb_ hx1007_0 GW1006; have hn1007_1 : ad1007.block ≠ gb1006 := hb_ hx1007_0 GW1006; replace hx1007_0 := kp_ HB hx1007_0; replace hx1007_1 := kp_ HB hx1007_1; replace hx1007_0 := cf_ gb1006 0 hn1007_0 (.slice A1005_0 ((rd_T103 l0_3 x39_2).f0).length c1005_0) hx1007_0; replace hx1007_1 := cf_ gb1006 0 hn1007_0 (.slice A1005_0 ((rd_T103 l0_3 x39_2).f0).length c1005_0) hx1007_1; replace hx1007_0 := cf_ gb1006 1 hn1007_1 (.slice (some ad1007) ((rd_T103 l0_3 x39_2).f1).length c1005_1) hx1007_0; replace hx1007_1 := cf_ gb1006 1 hn1007_1 (.slice (some ad1007) ((rd_T103 l0_3 x39_2).f1).length c1005_1) hx1007_1; (try have hy1007_0 := fun (n_ : Nat) => (show ((((w36.drewN n_).setCell ⟨gb1006, 0, none⟩ (.slice A1005_0 ((rd_T103 l0_3 x39_2).f0).length c1005_0)).setCell ⟨gb1006, 1, none⟩ (.slice (some ad1007) ((rd_T103 l0_3 x39_2).f1).length c1005_1))).cell? _ = some _ from hx1007_0)); (try have hy1007_1 := fun (n_ : Nat) => (show ((((w36.drewN n_).setCell ⟨gb1006, 0, none⟩ (.slice A1005_0 ((rd_T103 l0_3 x39_2).f0).length c1005_0)).setCell ⟨gb1006, 1, none⟩ (.slice (some ad1007) ((rd_T103 l0_3 x39_2).f1).length c1005_1))).cell? _ = some _ from hx1007_1)); clear hn1007_0; clear hn1007_1; replace p1007 := eq_true p1007; replace q1007 := eq_true q1007; have hcz39_0 := bc4_0 BK1001; have hcz39_1 := bc4_1 BK1001; have hcz39_2 := bc4_2 BK1001; have hcz39_3 := bc4_3 BK1001; have hfz39_0 := bf_ BK1001 0; have hfz39_1 := bf_ BK1001 1; have hfz39_2 := bf_ BK1001 2; have hfz39_3 := bf_ BK1001 3)))
            go_roundg k2
            case measure => have := HJ1.out; have := HK2.out; omega
            case rel => exact ⟨(wrap64 (x39_2 + 1)), rs_, H', ⟨by have := HJ1.out; have := HK2.out; omega⟩, ⟨by (with_reducible repeat (first | refine blk_drewN ?_ _ | refine blk_drew ?_ | refine blk_alloc ?_ _)); refine blk_far ?_ NB1001_1006.out _; (with_reducible repeat (first | refine blk_drewN ?_ _ | refine blk_drew ?_ | refine blk_alloc ?_ _)); refine blk_far ?_ NB1001_1006.out _; (with_reducible repeat (first | refine blk_drewN ?_ _ | refine blk_drew ?_ | refine blk_alloc ?_ _)); exact BK1001.out⟩, ⟨bg_⟩⟩
          ·rw [if_neg c30] at H
           exact absurd H (by simp)
         ·rw [if_neg c29] at H
          exact absurd H (by simp)
        ·rw [if_neg c27] at H
         exact absurd H (by simp)
       ·rw [if_neg c26] at H
        exact absurd H (by simp)
      ·rw [if_neg c25] at H
       have c25b0 : decide (x39_2 < (l0_3.length : Int)) = false := decide_eq_false c25
       clear c25
       obtain rfl := Option.some.inj H
       go_wp2
       repeat (go_quiet (fail); try go_wp2)
       go_ret
       exact ⟨rf_, bg_⟩

/-! ### laws_eqHead: function 52 -/
def laws_eqHead.f (k : Nat) (a0_0 : Int) (a0_1 : Int) (a0_2 : Int) (l0_3 : List (S103)) (a1_0 : Int) (a1_1 : Int) (a1_2 : Int) (l1_3 : List (S103)) : Option (Bool) := if a0_0 = a1_0 then (if a0_1 = a1_1 then (if a0_2 = a1_2 then ((laws_eqSeriesS.f k l0_3 l1_3).bind fun t1003 => (if t1003 = true then (some true) else (some false))) else (some false)) else (some false)) else (some false)
theorem laws_eqHead.mono : ∀ a0 a1 a2 a3 a4 a5 a6 a7 k, LeO (laws_eqHead.f k a0 a1 a2 a3 a4 a5 a6 a7) (laws_eqHead.f (k + 1) a0 a1 a2 a3 a4 a5 a6 a7) := by
 intro a0 a1 a2 a3 a4 a5 a6 a7 k
 unfold laws_eqHead.f
 repeat' first
   | with_reducible first | exact laws_eqSeriesS.mono _ _ _ | exact LeO.refl _ | exact LeO.none _ | refine LeO.ite ?_ ?_ | refine LeO.bind ?_ (fun _ => ?_)
   | exact laws_eqSeriesS.mono _ _ _
   | exact LeO.none _
   | refine LeO.ite ?_ ?_
   | refine LeO.bind ?_ (fun _ => ?_)
set_option maxHeartbeats 8000000 in
set_option maxRecDepth 100000 in
theorem laws_eqHead.calls (k : Nat) (a0_0 : Int) (a0_1 : Int) (a0_2 : Int) (A0_3 : Option Addr) (c0_3 : Nat) (l0_3 : List (S103)) (a1_0 : Int) (a1_1 : Int) (a1_2 : Int) (A1_3 : Option Addr) (c1_3 : Nat) (l1_3 : List (S103)) (r : Bool) (w : World) (hr0_3 : Kd.C k103 w A0_3 l0_3.length l0_3) (hc0_3 : l0_3.length ≤ c0_3) (hr1_3 : Kd.C k103 w A1_3 l1_3.length l1_3) (hc1_3 : l1_3.length ≤ c1_3) (h : laws_eqHead.f k a0_0 a0_1 a0_2 l0_3 a1_0 a1_1 a1_2 l1_3 = some r) :
  Calls Try.prog 52 #[.agg #[.int .i64 a0_0, .int .i64 a0_1, .int .i64 a0_2, .slice A0_3 l0_3.length c0_3], .agg #[.int .i64 a1_0, .int .i64 a1_1, .int .i64 a1_2, .slice A1_3 l1_3.length c1_3]] w fun e w' => e = .returned (.bool r) ∧ Below w.heap.size w w' := by
 have hu65 := Try.underlying65
 have HR0_3 := am_ hr0_3
 have HC0_3 := am_ hc0_3
 clear hr0_3 hc0_3
 have HR1_3 := am_ hr1_3
 have HC1_3 := am_ hc1_3
 clear hr1_3 hc1_3
 have HB := am_ (Below.refl w.heap.size w)
 have H : (if a0_0 = a1_0 then (if a0_1 = a1_1 then (if a0_2 = a1_2 then ((laws_eqSeriesS.f k l0_3 l1_3).bind fun t1003 => (if t1003 = true then (some true) else (some false))) else (some false)) else (some false)) else (some false)) = some r := h
 clear h
 by_cases c3 : a0_0 = a1_0
 ·rw [if_pos c3] at H
  have c3b0 : (a0_0 == a1_0) = true := beq_iff_eq.mpr c3
  have c3b1 : (a0_0 != a1_0) = false := bne_eq_false_iff_eq.mpr c3
  clear c3
  by_cases c4 : a0_1 = a1_1
  ·rw [if_pos c4] at H
   have c4b0 : (a0_1 == a1_1) = true := beq_iff_eq.mpr c4
   have c4b1 : (a0_1 != a1_1) = false := bne_eq_false_iff_eq.mpr c4
   clear c4
   by_cases c5 : a0_2 = a1_2
   ·rw [if_pos c5] at H
    have c5b0 : (a0_2 == a1_2) = true := beq_iff_eq.mpr c5
    have c5b1 : (a0_2 != a1_2) = false := bne_eq_false_iff_eq.mpr c5
    clear c5
    replace H := Option.bind_eq_some_iff.mp H
    obtain ⟨t1003, A60, H⟩ := H
    replace H : (if t1003 = true then (some true) else (some false)) = some r := H
    have A6 := am_ A60
    clear A60
    by_cases c7 : t1003 = true
    ·subst c7
     have H1 : (some true) = some r := by rw [if_pos rfl] at H; exact H
     clear H
     have H := H1
     clear H1
     obtain rfl := Option.some.inj H
     go_enter Try.func52, Try.ntmps52
     go_wp2_with (first | ((with_reducible refine gate_dst (N := 2) rfl ?_); refine box_event ?hg (N := 2) ?hd (cs := #[.int .i64 a0_0, .int .i64 a0_1, .int .i64 a0_2, .slice A0_3 l0_3.length c0_3]) (t := 65) ?hr ?_; (case hd => rfl); (case hg => rfl); (case hr => first | (go_simp; done) | (go_simp; rfl)); intro gb1001 hg w8 hbox hb; have n0_ := am_ (below_step bl_ hb); have n1_ := am_ (hbox); have n2_ := am_ (gs_ hg : w.heap.size ≤ gb1001); have n3_ := n2_; clear HB; have HB := n0_; have BK1001 := n1_; have GW1001 := n2_; have GE1001 := n3_; clear n0_ n1_ n2_ n3_; clear hb hbox hg) | ((with_reducible refine gate_dst (N := 3) rfl ?_); refine box_event ?hg (N := 3) ?hd (cs := #[.int .i64 a1_0, .int .i64 a1_1, .int .i64 a1_2, .slice A1_3 l1_3.length c1_3]) (t := 65) ?hr ?_; (case hd => rfl); (case hg => rfl); (case hr => first | (go_simp; done) | (go_simp; rfl)); intro gb1002 hg w9 hbox hb; have n0_ := am_ (blk_below (g := gb1001) (vk_ BK1001) hb); have n1_ := am_ (below_step bg_ hb); have n2_ := am_ (hbox); have n3_ := am_ (gg_ hg : w.heap.size ≤ gb1002); have n4_ := n3_; have n5_ := am_ ((by rw [hg]; exact Nat.ne_of_lt (blk_lt (g := gb1001) (o := .cells #[.int .i64 a0_0, .int .i64 a0_1, .int .i64 a0_2, .slice A0_3 l0_3.length c0_3] 65 (0, 0)) (vk_ BK1001)) : gb1001 ≠ gb1002)); have n6_ := am_ ((by rw [hg]; exact Nat.ne_of_gt (blk_lt (g := gb1001) (o := .cells #[.int .i64 a0_0, .int .i64 a0_1, .int .i64 a0_2, .slice A0_3 l0_3.length c0_3] 65 (0, 0)) (vk_ BK1001)) : gb1002 ≠ gb1001)); clear BK1001; clear HB; have BK1001 := n0_; have HB := n1_; have BK1002 := n2_; have GW1002 := n3_; have GE1002 := n4_; have NB1001_1002 := n5_; have NB1002_1001 := n6_; clear n0_ n1_ n2_ n3_ n4_ n5_ n6_; clear hb hbox hg; have hnb10 := NB1001_1002.out; have hnc10 := NB1002_1001.out; have hcz11_0 := bc4_0 BK1001; have hcz11_1 := bc4_1 BK1001; have hcz11_2 := bc4_2 BK1001; have hcz11_3 := bc4_3 BK1001; have hfz11_0 := bf_ BK1001 0; have hfz11_1 := bf_ BK1001 1; have hfz11_2 := bf_ BK1001 2; have hfz11_3 := bf_ BK1001 3; have hcz12_0 := bc4_0 BK1002; have hcz12_1 := bc4_1 BK1002; have hcz12_2 := bc4_2 BK1002; have hcz12_3 := bc4_3 BK1002; have hfz12_0 := bf_ BK1002 0; have hfz12_1 := bf_ BK1002 1; have hfz12_2 := bf_ BK1002 2; have hfz12_3 := bf_ BK1002 3) | ((with_reducible refine gate_callee (f := 45) rfl ?_); refine goesL_ (some 24) rfl rfl Try.func45 (by kernel_rfl) rfl #[.slice A0_3 l0_3.length c0_3, .slice A1_3 l1_3.length c1_3] rfl ag_ ?_; (with_reducible refine (laws_eqSeriesS.calls k _ _ l0_3 _ _ l1_3 true _ ?side1 ?side2 ?side3 ?side4 A6.out).mono ?_); (case side1 => exact cc_ (Kd.C_below HR0_3.out HB.out)); (case side2 => exact HC0_3.out); (case side3 => exact cc_ (Kd.C_below HR1_3.out HB.out)); (case side4 => exact HC1_3.out); rintro e w13 ⟨rfl, hb⟩; refine ⟨_, rfl, ?_⟩; have n0_ := am_ (blk_below (g := gb1001) (vk_ BK1001) hb); have n1_ := am_ (blk_below (g := gb1002) (vk_ BK1002) hb); have n2_ := am_ (below_step bg_ hb); clear BK1001; clear BK1002; clear HB; have BK1001 := n0_; have BK1002 := n1_; have HB := n2_; clear n0_ n1_ n2_; (try clear hb); (try clear hb2); (try clear hk); (try clear hi)))
     go_ret
     exact ⟨rf_, bg_⟩
    ·replace c7 := Bool.eq_false_iff.mpr c7
     subst c7
     have H1 : (some false) = some r := by rw [if_neg (show ¬ (false = true) by decide)] at H; exact H
     clear H
     have H := H1
     clear H1
     obtain rfl := Option.some.inj H
     go_enter Try.func52, Try.ntmps52
     go_wp2_with (first | ((with_reducible refine gate_dst (N := 2) rfl ?_); refine box_event ?hg (N := 2) ?hd (cs := #[.int .i64 a0_0, .int .i64 a0_1, .int .i64 a0_2, .slice A0_3 l0_3.length c0_3]) (t := 65) ?hr ?_; (case hd => rfl); (case hg => rfl); (case hr => first | (go_simp; done) | (go_simp; rfl)); intro gb1001 hg w14 hbox hb; have n0_ := am_ (below_step bl_ hb); have n1_ := am_ (hbox); have n2_ := am_ (gs_ hg : w.heap.size ≤ gb1001); have n3_ := n2_; clear HB; have HB := n0_; have BK1001 := n1_; have GW1001 := n2_; have GE1001 := n3_; clear n0_ n1_ n2_ n3_; clear hb hbox hg) | ((with_reducible refine gate_dst (N := 3) rfl ?_); refine box_event ?hg (N := 3) ?hd (cs := #[.int .i64 a1_0, .int .i64 a1_1, .int .i64 a1_2, .slice A1_3 l1_3.length c1_3]) (t := 65) ?hr ?_; (case hd => rfl); (case hg => rfl); (case hr => first | (go_simp; done) | (go_simp; rfl)); intro gb1002 hg w15 hbox hb; have n0_ := am_ (blk_below (g := gb1001) (vk_ BK1001) hb); have n1_ := am_ (below_step bg_ hb); have n2_ := am_ (hbox); have n3_ := am_ (gg_ hg : w.heap.size ≤ gb1002); have n4_ := n3_; have n5_ := am_ ((by rw [hg]; exact Nat.ne_of_lt (blk_lt (g := gb1001) (o := .cells #[.int .i64 a0_0, .int .i64 a0_1, .int .i64 a0_2, .slice A0_3 l0_3.length c0_3] 65 (0, 0)) (vk_ BK1001)) : gb1001 ≠ gb1002)); have n6_ := am_ ((by rw [hg]; exact Nat.ne_of_gt (blk_lt (g := gb1001) (o := .cells #[.int .i64 a0_0, .int .i64 a0_1, .int .i64 a0_2, .slice A0_3 l0_3.length c0_3] 65 (0, 0)) (vk_ BK1001)) : gb1002 ≠ gb1001)); clear BK1001; clear HB; have BK1001 := n0_; have HB := n1_; have BK1002 := n2_; have GW1002 := n3_; have GE1002 := n4_; have NB1001_1002 := n5_; have NB1002_1001 := n6_; clear n0_ n1_ n2_ n3_ n4_ n5_ n6_; clear hb hbox hg; have hnb16 := NB1001_1002.out; have hnc16 := NB1002_1001.out; have hcz17_0 := bc4_0 BK1001; have hcz17_1 := bc4_1 BK1001; have hcz17_2 := bc4_2 BK1001; have hcz17_3 := bc4_3 BK1001; have hfz17_0 := bf_ BK1001 0; have hfz17_1 := bf_ BK1001 1; have hfz17_2 := bf_ BK1001 2; have hfz17_3 := bf_ BK1001 3; have hcz18_0 := bc4_0 BK1002; have hcz18_1 := bc4_1 BK1002; have hcz18_2 := bc4_2 BK1002; have hcz18_3 := bc4_3 BK1002; have hfz18_0 := bf_ BK1002 0; have hfz18_1 := bf_ BK1002 1; have hfz18_2 := bf_ BK1002 2; have hfz18_3 := bf_ BK1002 3) | ((with_reducible refine gate_callee (f := 45) rfl ?_); refine goesL_ (some 24) rfl rfl Try.func45 (by kernel_rfl) rfl #[.slice A0_3 l0_3.length c0_3, .slice A1_3 l1_3.length c1_3] rfl ag_ ?_; (with_reducible refine (laws_eqSeriesS.calls k _ _ l0_3 _ _ l1_3 false _ ?side1 ?side2 ?side3 ?side4 A6.out).mono ?_); (case side1 => exact cc_ (Kd.C_below HR0_3.out HB.out)); (case side2 => exact HC0_3.out); (case side3 => exact cc_ (Kd.C_below HR1_3.out HB.out)); (case side4 => exact HC1_3.out); rintro e w19 ⟨rfl, hb⟩; refine ⟨_, rfl, ?_⟩; have n0_ := am_ (blk_below (g := gb1001) (vk_ BK1001) hb); have n1_ := am_ (blk_below (g := gb1002) (vk_ BK1002) hb); have n2_ := am_ (below_step bg_ hb); clear BK1001; clear BK1002; clear HB; have BK1001 := n0_; have BK1002 := n1_; have HB := n2_; clear n0_ n1_ n2_; (try clear hb); (try clear hb2); (try clear hk); (try clear hi)))
     go_ret
     exact ⟨rf_, bg_⟩
   ·rw [if_neg c5] at H
    have c5b0 : (a0_2 == a1_2) = false := beq_eq_false_iff_ne.mpr c5
    have c5b1 : (a0_2 != a1_2) = true := bne_iff_ne.mpr c5
    obtain rfl := Option.some.inj H
    go_enter Try.func52, Try.ntmps52
    go_wp2_with (first | ((with_reducible refine gate_dst (N := 2) rfl ?_); refine box_event ?hg (N := 2) ?hd (cs := #[.int .i64 a0_0, .int .i64 a0_1, .int .i64 a0_2, .slice A0_3 l0_3.length c0_3]) (t := 65) ?hr ?_; (case hd => rfl); (case hg => rfl); (case hr => first | (go_simp; done) | (go_simp; rfl)); intro gb1001 hg w20 hbox hb; have n0_ := am_ (below_step bl_ hb); have n1_ := am_ (hbox); have n2_ := am_ (gs_ hg : w.heap.size ≤ gb1001); have n3_ := n2_; clear HB; have HB := n0_; have BK1001 := n1_; have GW1001 := n2_; have GE1001 := n3_; clear n0_ n1_ n2_ n3_; clear hb hbox hg) | ((with_reducible refine gate_dst (N := 3) rfl ?_); refine box_event ?hg (N := 3) ?hd (cs := #[.int .i64 a1_0, .int .i64 a1_1, .int .i64 a1_2, .slice A1_3 l1_3.length c1_3]) (t := 65) ?hr ?_; (case hd => rfl); (case hg => rfl); (case hr => first | (go_simp; done) | (go_simp; rfl)); intro gb1002 hg w21 hbox hb; have n0_ := am_ (blk_below (g := gb1001) (vk_ BK1001) hb); have n1_ := am_ (below_step bg_ hb); have n2_ := am_ (hbox); have n3_ := am_ (gg_ hg : w.heap.size ≤ gb1002); have n4_ := n3_; have n5_ := am_ ((by rw [hg]; exact Nat.ne_of_lt (blk_lt (g := gb1001) (o := .cells #[.int .i64 a0_0, .int .i64 a0_1, .int .i64 a0_2, .slice A0_3 l0_3.length c0_3] 65 (0, 0)) (vk_ BK1001)) : gb1001 ≠ gb1002)); have n6_ := am_ ((by rw [hg]; exact Nat.ne_of_gt (blk_lt (g := gb1001) (o := .cells #[.int .i64 a0_0, .int .i64 a0_1, .int .i64 a0_2, .slice A0_3 l0_3.length c0_3] 65 (0, 0)) (vk_ BK1001)) : gb1002 ≠ gb1001)); clear BK1001; clear HB; have BK1001 := n0_; have HB := n1_; have BK1002 := n2_; have GW1002 := n3_; have GE1002 := n4_; have NB1001_1002 := n5_; have NB1002_1001 := n6_; clear n0_ n1_ n2_ n3_ n4_ n5_ n6_; clear hb hbox hg; have hnb22 := NB1001_1002.out; have hnc22 := NB1002_1001.out; have hcz23_0 := bc4_0 BK1001; have hcz23_1 := bc4_1 BK1001; have hcz23_2 := bc4_2 BK1001; have hcz23_3 := bc4_3 BK1001; have hfz23_0 := bf_ BK1001 0; have hfz23_1 := bf_ BK1001 1; have hfz23_2 := bf_ BK1001 2; have hfz23_3 := bf_ BK1001 3; have hcz24_0 := bc4_0 BK1002; have hcz24_1 := bc4_1 BK1002; have hcz24_2 := bc4_2 BK1002; have hcz24_3 := bc4_3 BK1002; have hfz24_0 := bf_ BK1002 0; have hfz24_1 := bf_ BK1002 1; have hfz24_2 := bf_ BK1002 2; have hfz24_3 := bf_ BK1002 3))
    go_ret
    exact ⟨rf_, bg_⟩
  ·rw [if_neg c4] at H
   have c4b0 : (a0_1 == a1_1) = false := beq_eq_false_iff_ne.mpr c4
   have c4b1 : (a0_1 != a1_1) = true := bne_iff_ne.mpr c4
   obtain rfl := Option.some.inj H
   go_enter Try.func52, Try.ntmps52
   go_wp2_with (first | ((with_reducible refine gate_dst (N := 2) rfl ?_); refine box_event ?hg (N := 2) ?hd (cs := #[.int .i64 a0_0, .int .i64 a0_1, .int .i64 a0_2, .slice A0_3 l0_3.length c0_3]) (t := 65) ?hr ?_; (case hd => rfl); (case hg => rfl); (case hr => first | (go_simp; done) | (go_simp; rfl)); intro gb1001 hg w25 hbox hb; have n0_ := am_ (below_step bl_ hb); have n1_ := am_ (hbox); have n2_ := am_ (gs_ hg : w.heap.size ≤ gb1001); have n3_ := n2_; clear HB; have HB := n0_; have BK1001 := n1_; have GW1001 := n2_; have GE1001 := n3_; clear n0_ n1_ n2_ n3_; clear hb hbox hg) | ((with_reducible refine gate_dst (N := 3) rfl ?_); refine box_event ?hg (N := 3) ?hd (cs := #[.int .i64 a1_0, .int .i64 a1_1, .int .i64 a1_2, .slice A1_3 l1_3.length c1_3]) (t := 65) ?hr ?_; (case hd => rfl); (case hg => rfl); (case hr => first | (go_simp; done) | (go_simp; rfl)); intro gb1002 hg w26 hbox hb; have n0_ := am_ (blk_below (g := gb1001) (vk_ BK1001) hb); have n1_ := am_ (below_step bg_ hb); have n2_ := am_ (hbox); have n3_ := am_ (gg_ hg : w.heap.size ≤ gb1002); have n4_ := n3_; have n5_ := am_ ((by rw [hg]; exact Nat.ne_of_lt (blk_lt (g := gb1001) (o := .cells #[.int .i64 a0_0, .int .i64 a0_1, .int .i64 a0_2, .slice A0_3 l0_3.length c0_3] 65 (0, 0)) (vk_ BK1001)) : gb1001 ≠ gb1002)); have n6_ := am_ ((by rw [hg]; exact Nat.ne_of_gt (blk_lt (g := gb1001) (o := .cells #[.int .i64 a0_0, .int .i64 a0_1, .int .i64 a0_2, .slice A0_3 l0_3.length c0_3] 65 (0, 0)) (vk_ BK1001)) : gb1002 ≠ gb1001)); clear BK1001; clear HB; have BK1001 := n0_; have HB := n1_; have BK1002 := n2_; have GW1002 := n3_; have GE1002 := n4_; have NB1001_1002 := n5_; have NB1002_1001 := n6_; clear n0_ n1_ n2_ n3_ n4_ n5_ n6_; clear hb hbox hg; have hnb27 := NB1001_1002.out; have hnc27 := NB1002_1001.out; have hcz28_0 := bc4_0 BK1001; have hcz28_1 := bc4_1 BK1001; have hcz28_2 := bc4_2 BK1001; have hcz28_3 := bc4_3 BK1001; have hfz28_0 := bf_ BK1001 0; have hfz28_1 := bf_ BK1001 1; have hfz28_2 := bf_ BK1001 2; have hfz28_3 := bf_ BK1001 3; have hcz29_0 := bc4_0 BK1002; have hcz29_1 := bc4_1 BK1002; have hcz29_2 := bc4_2 BK1002; have hcz29_3 := bc4_3 BK1002; have hfz29_0 := bf_ BK1002 0; have hfz29_1 := bf_ BK1002 1; have hfz29_2 := bf_ BK1002 2; have hfz29_3 := bf_ BK1002 3))
   go_ret
   exact ⟨rf_, bg_⟩
 ·rw [if_neg c3] at H
  have c3b0 : (a0_0 == a1_0) = false := beq_eq_false_iff_ne.mpr c3
  have c3b1 : (a0_0 != a1_0) = true := bne_iff_ne.mpr c3
  obtain rfl := Option.some.inj H
  go_enter Try.func52, Try.ntmps52
  go_wp2_with (first | ((with_reducible refine gate_dst (N := 2) rfl ?_); refine box_event ?hg (N := 2) ?hd (cs := #[.int .i64 a0_0, .int .i64 a0_1, .int .i64 a0_2, .slice A0_3 l0_3.length c0_3]) (t := 65) ?hr ?_; (case hd => rfl); (case hg => rfl); (case hr => first | (go_simp; done) | (go_simp; rfl)); intro gb1001 hg w30 hbox hb; have n0_ := am_ (below_step bl_ hb); have n1_ := am_ (hbox); have n2_ := am_ (gs_ hg : w.heap.size ≤ gb1001); have n3_ := n2_; clear HB; have HB := n0_; have BK1001 := n1_; have GW1001 := n2_; have GE1001 := n3_; clear n0_ n1_ n2_ n3_; clear hb hbox hg) | ((with_reducible refine gate_dst (N := 3) rfl ?_); refine box_event ?hg (N := 3) ?hd (cs := #[.int .i64 a1_0, .int .i64 a1_1, .int .i64 a1_2, .slice A1_3 l1_3.length c1_3]) (t := 65) ?hr ?_; (case hd => rfl); (case hg => rfl); (case hr => first | (go_simp; done) | (go_simp; rfl)); intro gb1002 hg w31 hbox hb; have n0_ := am_ (blk_below (g := gb1001) (vk_ BK1001) hb); have n1_ := am_ (below_step bg_ hb); have n2_ := am_ (hbox); have n3_ := am_ (gg_ hg : w.heap.size ≤ gb1002); have n4_ := n3_; have n5_ := am_ ((by rw [hg]; exact Nat.ne_of_lt (blk_lt (g := gb1001) (o := .cells #[.int .i64 a0_0, .int .i64 a0_1, .int .i64 a0_2, .slice A0_3 l0_3.length c0_3] 65 (0, 0)) (vk_ BK1001)) : gb1001 ≠ gb1002)); have n6_ := am_ ((by rw [hg]; exact Nat.ne_of_gt (blk_lt (g := gb1001) (o := .cells #[.int .i64 a0_0, .int .i64 a0_1, .int .i64 a0_2, .slice A0_3 l0_3.length c0_3] 65 (0, 0)) (vk_ BK1001)) : gb1002 ≠ gb1001)); clear BK1001; clear HB; have BK1001 := n0_; have HB := n1_; have BK1002 := n2_; have GW1002 := n3_; have GE1002 := n4_; have NB1001_1002 := n5_; have NB1002_1001 := n6_; clear n0_ n1_ n2_ n3_ n4_ n5_ n6_; clear hb hbox hg; have hnb32 := NB1001_1002.out; have hnc32 := NB1002_1001.out; have hcz33_0 := bc4_0 BK1001; have hcz33_1 := bc4_1 BK1001; have hcz33_2 := bc4_2 BK1001; have hcz33_3 := bc4_3 BK1001; have hfz33_0 := bf_ BK1001 0; have hfz33_1 := bf_ BK1001 1; have hfz33_2 := bf_ BK1001 2; have hfz33_3 := bf_ BK1001 3; have hcz34_0 := bc4_0 BK1002; have hcz34_1 := bc4_1 BK1002; have hcz34_2 := bc4_2 BK1002; have hcz34_3 := bc4_3 BK1002; have hfz34_0 := bf_ BK1002 0; have hfz34_1 := bf_ BK1002 1; have hfz34_2 := bf_ BK1002 2; have hfz34_3 := bf_ BK1002 3))
  go_ret
  exact ⟨rf_, bg_⟩

end Go.Proofs.Ythgeohdpjedhnaa.Pr
