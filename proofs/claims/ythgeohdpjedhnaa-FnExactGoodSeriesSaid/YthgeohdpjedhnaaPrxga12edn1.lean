/- Functions of the given program as plain Lean functions, and that the machine's calls come to them; written by a program of this session; no condition but those that each theorem states. -/
import Derived.Test.YthgeohdpjedhnaaPrx0
import Derived.Test.YthgeohdpjedhnaaPrxg0dd73n1
import Derived.Test.YthgeohdpjedhnaaPrxg5570bn1
import Derived.Test.YthgeohdpjedhnaaPrxgc61f0n1
namespace Go.Proofs.Ythgeohdpjedhnaa.Pr
open Go.RowKit Go.Proofs.YthgeohdpjedhnaaW.PrintWords Go.Proofs.YthgeohdpjedhnaaW.PrintLast Go.Proofs.YthgeohdpjedhnaaW.PrintMore
attribute [local go_sem] max2_int min2_int max_two min_two max_three min_three max_four min_four   -- for this text's walks alone
set_option linter.unusedVariables false
set_option linter.unusedSimpArgs false

/-! ### laws_szSampleS: function 131 -/
def laws_szSampleS.f (l0 : List (S175)) (a1 : Int) : Option (Int) := if (wrap64 (a1 - (l0.length : Int))) < 0 then (some (-1)) else (some (wrap64 (a1 - (l0.length : Int))))
set_option maxHeartbeats 8000000 in
set_option maxRecDepth 100000 in
theorem laws_szSampleS.calls (A0 : Option Addr) (c0 : Nat) (l0 : List (S175)) (a1 : Int) (r : Int) (w : World) (hr0 : Kd.C k175 w A0 l0.length l0) (hc0 : l0.length ≤ c0) (h : laws_szSampleS.f l0 a1 = some r) :
  Calls Try.prog 131 #[.slice A0 l0.length c0, .int .i64 a1] w fun e w' => e = .returned (.int .i64 r) ∧ Drawn0 w w' := by
 have HR0 := Aside0.mk hr0
 have HC0 := Aside0.mk hc0
 clear hr0 hc0
 have H : (if (wrap64 (a1 - (l0.length : Int))) < 0 then (some (-1)) else (some (wrap64 (a1 - (l0.length : Int))))) = some r := h
 clear h
 by_cases c3 : (wrap64 (a1 - (l0.length : Int))) < 0
 ·rw [if_pos c3] at H
  have c3b0 : decide ((wrap64 (a1 - (l0.length : Int))) < 0) = true := decide_eq_true c3
  clear c3
  obtain rfl := Option.some.inj H
  go_enter Try.func131, Try.ntmps131
  go_wp2
  go_ret
  exact ⟨by first | rfl | (simp; done) | (simp [*]; done), by repeat (first | exact Drawn0.refl _ | apply Drawn0.step)⟩
 ·rw [if_neg c3] at H
  have c3b0 : decide ((wrap64 (a1 - (l0.length : Int))) < 0) = false := decide_eq_false c3
  clear c3
  obtain rfl := Option.some.inj H
  go_enter Try.func131, Try.ntmps131
  go_wp2
  go_ret
  exact ⟨by first | rfl | (simp; done) | (simp [*]; done), by repeat (first | exact Drawn0.refl _ | apply Drawn0.step)⟩

/-! ### laws_szSeries: function 90 -/
def laws_szSeries.f (k : Nat) (l0_0 : List (S84)) (l0_1 : List (S175)) (a1 : Int) : Option (Int) := (laws_szLabelS.f k l0_0 a1).bind fun t505 => (if t505 < 0 then (some (-1)) else ((laws_szSampleS.f l0_1 t505).bind fun t506 => (if t506 < 0 then (some (-1)) else (some t506))))
theorem laws_szSeries.mono : ∀ a0 a1 a2 k, LeO (laws_szSeries.f k a0 a1 a2) (laws_szSeries.f (k + 1) a0 a1 a2) := by
 intro a0 a1 a2 k
 unfold laws_szSeries.f
 repeat' first
   | (with_reducible exact laws_szLabelS.mono _ _ _)
   | (with_reducible exact LeO.refl _)
   | (with_reducible exact LeO.none _)
   | (with_reducible refine LeO.ite ?_ ?_)
   | (with_reducible refine LeO.bind ?_ (fun _ => ?_))
   | exact laws_szLabelS.mono _ _ _
   | exact LeO.none _
   | refine LeO.ite ?_ ?_
   | refine LeO.bind ?_ (fun _ => ?_)
set_option maxHeartbeats 8000000 in
set_option maxRecDepth 100000 in
theorem laws_szSeries.calls (k : Nat) (A0_0 : Option Addr) (c0_0 : Nat) (l0_0 : List (S84)) (A0_1 : Option Addr) (c0_1 : Nat) (l0_1 : List (S175)) (a1 : Int) (r : Int) (w : World) (hr0_0 : Kd.C k84 w A0_0 l0_0.length l0_0) (hc0_0 : l0_0.length ≤ c0_0) (hr0_1 : Kd.C k175 w A0_1 l0_1.length l0_1) (hc0_1 : l0_1.length ≤ c0_1) (h : laws_szSeries.f k l0_0 l0_1 a1 = some r) :
  Calls Try.prog 90 #[.agg #[.slice A0_0 l0_0.length c0_0, .slice A0_1 l0_1.length c0_1], .int .i64 a1] w fun e w' => e = .returned (.int .i64 r) ∧ Below w.heap.size w w' := by
 have hu100 := Try.underlying100
 have HR0_0 := Aside0.mk hr0_0
 have HC0_0 := Aside0.mk hc0_0
 clear hr0_0 hc0_0
 have HR0_1 := Aside0.mk hr0_1
 have HC0_1 := Aside0.mk hc0_1
 clear hr0_1 hc0_1
 have HB := Aside0.mk (Below.refl w.heap.size w)
 have H : ((laws_szLabelS.f k l0_0 a1).bind fun t505 => (if t505 < 0 then (some (-1)) else ((laws_szSampleS.f l0_1 t505).bind fun t506 => (if t506 < 0 then (some (-1)) else (some t506))))) = some r := h
 clear h
 replace H := Option.bind_eq_some_iff.mp H
 obtain ⟨t505, A30, H⟩ := H
 replace H : (if t505 < 0 then (some (-1)) else ((laws_szSampleS.f l0_1 t505).bind fun t506 => (if t506 < 0 then (some (-1)) else (some t506)))) = some r := H
 have A3 := Aside0.mk A30
 clear A30
 by_cases c4 : t505 < 0
 ·rw [if_pos c4] at H
  have c4b0 : decide (t505 < 0) = true := decide_eq_true c4
  clear c4
  obtain rfl := Option.some.inj H
  go_enter Try.func90, Try.ntmps90
  go_wp2_with (first | ((with_reducible refine gate_dst (N := 2) rfl ?_); refine box_event ?hg (N := 2) ?hd (cs := #[.slice A0_0 l0_0.length c0_0, .slice A0_1 l0_1.length c0_1]) (t := 100) ?hr ?_; (case hd => rfl); (case hg => rfl); (case hr => first | (go_simp; done) | (go_simp; rfl)); intro gb504 hg w5 hbox hb; have n0_ := Aside0.mk (below_step bl_ hb); have n1_ := Aside0.mk (hbox); have n2_ := Aside0.mk ((by rw [hg]; exact (below_size bl_) : w.heap.size ≤ gb504)); have n3_ := Aside0.mk ((by rw [hg]; exact (below_size bl_) : w.heap.size ≤ gb504)); clear HB; have HB := n0_; have BK504 := n1_; have GW504 := n2_; have GE504 := n3_; clear n0_ n1_ n2_ n3_; clear hb hbox hg; have hcz6_0 : w5.cell? ⟨gb504, 0, none⟩ = some (.slice A0_0 l0_0.length c0_0) := (blk_cell BK504.out 0).trans rfl; have hcz6_1 : w5.cell? ⟨gb504, 1, none⟩ = some (.slice A0_1 l0_1.length c0_1) := (blk_cell BK504.out 1).trans rfl; have hfz6_0 := blk_frozen BK504.out 0; have hfz6_1 := blk_frozen BK504.out 1) | ((with_reducible refine gate_callee (f := 19) rfl ?_); refine goesL_ (some 8) rfl rfl Try.func19 (by kernel_rfl) rfl #[.slice A0_0 l0_0.length c0_0, .int .i64 a1] rfl (by (try simp only [List.map_toArray, List.map_cons, List.map_nil]); first | done | rfl | (simp only [List.length_drop, List.length_take]; rfl)) ?_; (with_reducible refine (laws_szLabelS.calls k _ _ l0_0 a1 t505 _ ?side1 ?side2 A3.out).mono ?_); (case side1 => repeat (first | exact (Kd.C_below HR0_0.out HB.out) | (with_reducible refine Kd.C_alloc ?_ _) | (with_reducible refine Kd.C_drewN ?_ _) | (with_reducible refine Kd.C_drew ?_))); (case side2 => exact HC0_0.out); rintro e w7 ⟨rfl, hb⟩; refine ⟨_, rfl, ?_⟩; have n0_ := Aside0.mk (blk_below (g := gb504) (o := .cells #[.slice A0_0 l0_0.length c0_0, .slice A0_1 l0_1.length c0_1] 100 (0, 0)) (by (with_reducible repeat (first | refine blk_drewN ?_ _ | refine blk_drew ?_ | refine blk_alloc ?_ _)); exact BK504.out) hb); have n1_ := Aside0.mk (below_step (by repeat (first | (with_reducible first | exact HB.out | apply below_alloc | apply pw_below_drewN | apply below_drew1 | refine below_set ?_ GE504.out) | exact HB.out)) hb); clear BK504; clear HB; have BK504 := n0_; have HB := n1_; clear n0_ n1_; (try clear hb); (try clear hb2); (try clear hk); (try clear hi)))
  go_ret
  exact ⟨by first | rfl | (simp [errW_none, errW_some] <;> rfl) | (simp [*, errW_none, errW_some] <;> rfl) | (simp [*, Go.Proofs.Ythgeohdpjedhnaa.Gt.nil_bne]; done), by repeat (first | (with_reducible first | exact HB.out | apply below_alloc | apply pw_below_drewN | apply below_drew1 | refine below_set ?_ GE504.out) | exact HB.out)⟩
 ·rw [if_neg c4] at H
  have c4b0 : decide (t505 < 0) = false := decide_eq_false c4
  clear c4
  replace H := Option.bind_eq_some_iff.mp H
  obtain ⟨t506, A80, H⟩ := H
  replace H : (if t506 < 0 then (some (-1)) else (some t506)) = some r := H
  have A8 := Aside0.mk A80
  clear A80
  by_cases c9 : t506 < 0
  ·rw [if_pos c9] at H
   have c9b0 : decide (t506 < 0) = true := decide_eq_true c9
   clear c9
   obtain rfl := Option.some.inj H
   go_enter Try.func90, Try.ntmps90
   go_wp2_with (first | ((with_reducible refine gate_dst (N := 2) rfl ?_); refine box_event ?hg (N := 2) ?hd (cs := #[.slice A0_0 l0_0.length c0_0, .slice A0_1 l0_1.length c0_1]) (t := 100) ?hr ?_; (case hd => rfl); (case hg => rfl); (case hr => first | (go_simp; done) | (go_simp; rfl)); intro gb504 hg w10 hbox hb; have n0_ := Aside0.mk (below_step bl_ hb); have n1_ := Aside0.mk (hbox); have n2_ := Aside0.mk ((by rw [hg]; exact (below_size bl_) : w.heap.size ≤ gb504)); have n3_ := Aside0.mk ((by rw [hg]; exact (below_size bl_) : w.heap.size ≤ gb504)); clear HB; have HB := n0_; have BK504 := n1_; have GW504 := n2_; have GE504 := n3_; clear n0_ n1_ n2_ n3_; clear hb hbox hg; have hcz11_0 : w10.cell? ⟨gb504, 0, none⟩ = some (.slice A0_0 l0_0.length c0_0) := (blk_cell BK504.out 0).trans rfl; have hcz11_1 : w10.cell? ⟨gb504, 1, none⟩ = some (.slice A0_1 l0_1.length c0_1) := (blk_cell BK504.out 1).trans rfl; have hfz11_0 := blk_frozen BK504.out 0; have hfz11_1 := blk_frozen BK504.out 1) | ((with_reducible refine gate_callee (f := 19) rfl ?_); refine goesL_ (some 8) rfl rfl Try.func19 (by kernel_rfl) rfl #[.slice A0_0 l0_0.length c0_0, .int .i64 a1] rfl (by (try simp only [List.map_toArray, List.map_cons, List.map_nil]); first | done | rfl | (simp only [List.length_drop, List.length_take]; rfl)) ?_; (with_reducible refine (laws_szLabelS.calls k _ _ l0_0 a1 t505 _ ?side1 ?side2 A3.out).mono ?_); (case side1 => repeat (first | exact (Kd.C_below HR0_0.out HB.out) | (with_reducible refine Kd.C_alloc ?_ _) | (with_reducible refine Kd.C_drewN ?_ _) | (with_reducible refine Kd.C_drew ?_))); (case side2 => exact HC0_0.out); rintro e w12 ⟨rfl, hb⟩; refine ⟨_, rfl, ?_⟩; have n0_ := Aside0.mk (blk_below (g := gb504) (o := .cells #[.slice A0_0 l0_0.length c0_0, .slice A0_1 l0_1.length c0_1] 100 (0, 0)) (by (with_reducible repeat (first | refine blk_drewN ?_ _ | refine blk_drew ?_ | refine blk_alloc ?_ _)); exact BK504.out) hb); have n1_ := Aside0.mk (below_step (by repeat (first | (with_reducible first | exact HB.out | apply below_alloc | apply pw_below_drewN | apply below_drew1 | refine below_set ?_ GE504.out) | exact HB.out)) hb); clear BK504; clear HB; have BK504 := n0_; have HB := n1_; clear n0_ n1_; (try clear hb); (try clear hb2); (try clear hk); (try clear hi); have hcz13_0 : w12.cell? ⟨gb504, 0, none⟩ = some (.slice A0_0 l0_0.length c0_0) := (blk_cell BK504.out 0).trans rfl; have hcz13_1 : w12.cell? ⟨gb504, 1, none⟩ = some (.slice A0_1 l0_1.length c0_1) := (blk_cell BK504.out 1).trans rfl; have hfz13_0 := blk_frozen BK504.out 0; have hfz13_1 := blk_frozen BK504.out 1) | ((with_reducible refine gate_callee (f := 131) rfl ?_); refine goesL_ (some 14) rfl rfl Try.func131 (by kernel_rfl) rfl #[.slice A0_1 l0_1.length c0_1, .int .i64 t505] rfl (by (try simp only [List.map_toArray, List.map_cons, List.map_nil]); first | done | rfl | (simp only [List.length_drop, List.length_take]; rfl)) ?_; (with_reducible refine (laws_szSampleS.calls _ _ l0_1 t505 t506 _ ?side1 ?side2 A8.out).mono ?_); (case side1 => repeat (first | exact (Kd.C_below HR0_1.out HB.out) | (with_reducible refine Kd.C_alloc ?_ _) | (with_reducible refine Kd.C_drewN ?_ _) | (with_reducible refine Kd.C_drew ?_))); (case side2 => exact HC0_1.out); rintro e w' ⟨rfl, ⟨nd, rfl⟩⟩; refine ⟨_, rfl, ?_⟩))
   go_ret
   exact ⟨by first | rfl | (simp [errW_none, errW_some] <;> rfl) | (simp [*, errW_none, errW_some] <;> rfl) | (simp [*, Go.Proofs.Ythgeohdpjedhnaa.Gt.nil_bne]; done), by repeat (first | (with_reducible first | exact HB.out | apply below_alloc | apply pw_below_drewN | apply below_drew1 | refine below_set ?_ GE504.out) | exact HB.out)⟩
  ·rw [if_neg c9] at H
   have c9b0 : decide (t506 < 0) = false := decide_eq_false c9
   clear c9
   obtain rfl := Option.some.inj H
   go_enter Try.func90, Try.ntmps90
   go_wp2_with (first | ((with_reducible refine gate_dst (N := 2) rfl ?_); refine box_event ?hg (N := 2) ?hd (cs := #[.slice A0_0 l0_0.length c0_0, .slice A0_1 l0_1.length c0_1]) (t := 100) ?hr ?_; (case hd => rfl); (case hg => rfl); (case hr => first | (go_simp; done) | (go_simp; rfl)); intro gb504 hg w14 hbox hb; have n0_ := Aside0.mk (below_step bl_ hb); have n1_ := Aside0.mk (hbox); have n2_ := Aside0.mk ((by rw [hg]; exact (below_size bl_) : w.heap.size ≤ gb504)); have n3_ := Aside0.mk ((by rw [hg]; exact (below_size bl_) : w.heap.size ≤ gb504)); clear HB; have HB := n0_; have BK504 := n1_; have GW504 := n2_; have GE504 := n3_; clear n0_ n1_ n2_ n3_; clear hb hbox hg; have hcz15_0 : w14.cell? ⟨gb504, 0, none⟩ = some (.slice A0_0 l0_0.length c0_0) := (blk_cell BK504.out 0).trans rfl; have hcz15_1 : w14.cell? ⟨gb504, 1, none⟩ = some (.slice A0_1 l0_1.length c0_1) := (blk_cell BK504.out 1).trans rfl; have hfz15_0 := blk_frozen BK504.out 0; have hfz15_1 := blk_frozen BK504.out 1) | ((with_reducible refine gate_callee (f := 19) rfl ?_); refine goesL_ (some 8) rfl rfl Try.func19 (by kernel_rfl) rfl #[.slice A0_0 l0_0.length c0_0, .int .i64 a1] rfl (by (try simp only [List.map_toArray, List.map_cons, List.map_nil]); first | done | rfl | (simp only [List.length_drop, List.length_take]; rfl)) ?_; (with_reducible refine (laws_szLabelS.calls k _ _ l0_0 a1 t505 _ ?side1 ?side2 A3.out).mono ?_); (case side1 => repeat (first | exact (Kd.C_below HR0_0.out HB.out) | (with_reducible refine Kd.C_alloc ?_ _) | (with_reducible refine Kd.C_drewN ?_ _) | (with_reducible refine Kd.C_drew ?_))); (case side2 => exact HC0_0.out); rintro e w16 ⟨rfl, hb⟩; refine ⟨_, rfl, ?_⟩; have n0_ := Aside0.mk (blk_below (g := gb504) (o := .cells #[.slice A0_0 l0_0.length c0_0, .slice A0_1 l0_1.length c0_1] 100 (0, 0)) (by (with_reducible repeat (first | refine blk_drewN ?_ _ | refine blk_drew ?_ | refine blk_alloc ?_ _)); exact BK504.out) hb); have n1_ := Aside0.mk (below_step (by repeat (first | (with_reducible first | exact HB.out | apply below_alloc | apply pw_below_drewN | apply below_drew1 | refine below_set ?_ GE504.out) | exact HB.out)) hb); clear BK504; clear HB; have BK504 := n0_; have HB := n1_; clear n0_ n1_; (try clear hb); (try clear hb2); (try clear hk); (try clear hi); have hcz17_0 : w16.cell? ⟨gb504, 0, none⟩ = some (.slice A0_0 l0_0.length c0_0) := (blk_cell BK504.out 0).trans rfl; have hcz17_1 : w16.cell? ⟨gb504, 1, none⟩ = some (.slice A0_1 l0_1.length c0_1) := (blk_cell BK504.out 1).trans rfl; have hfz17_0 := blk_frozen BK504.out 0; have hfz17_1 := blk_frozen BK504.out 1) | ((with_reducible refine gate_callee (f := 131) rfl ?_); refine goesL_ (some 14) rfl rfl Try.func131 (by kernel_rfl) rfl #[.slice A0_1 l0_1.length c0_1, .int .i64 t505] rfl (by (try simp only [List.map_toArray, List.map_cons, List.map_nil]); first | done | rfl | (simp only [List.length_drop, List.length_take]; rfl)) ?_; (with_reducible refine (laws_szSampleS.calls _ _ l0_1 t505 t506 _ ?side1 ?side2 A8.out).mono ?_); (case side1 => repeat (first | exact (Kd.C_below HR0_1.out HB.out) | (with_reducible refine Kd.C_alloc ?_ _) | (with_reducible refine Kd.C_drewN ?_ _) | (with_reducible refine Kd.C_drew ?_))); (case side2 => exact HC0_1.out); rintro e w' ⟨rfl, ⟨nd, rfl⟩⟩; refine ⟨_, rfl, ?_⟩))
   go_ret
   exact ⟨by first | rfl | (simp [errW_none, errW_some] <;> rfl) | (simp [*, errW_none, errW_some] <;> rfl) | (simp [*, Go.Proofs.Ythgeohdpjedhnaa.Gt.nil_bne]; done), by repeat (first | (with_reducible first | exact HB.out | apply below_alloc | apply pw_below_drewN | apply below_drew1 | refine below_set ?_ GE504.out) | exact HB.out)⟩

/-! ### laws_szSeriesS: function 41 -/
def laws_szSeriesS.l0 : Nat → List (S100) → Int → Int → Option (Int)
 | 0, _, _, _ => none
 | k + 1, x0, x1, x5 => if x5 < (x0.length : Int) then (if 0 ≤ x5 then ((laws_szSeries.f k ((rd_T100 x0 x5).f0) ((rd_T100 x0 x5).f1) x1).bind fun t508 => (if t508 < 0 then (some (-1)) else (laws_szSeriesS.l0 k x0 t508 (wrap64 (x5 + 1))))) else (none)) else (some x1)
def laws_szSeriesS.f (k : Nat) (l0 : List (S100)) (a1 : Int) : Option (Int) := if (wrap64 (a1 - (l0.length : Int))) < 0 then (some (-1)) else (laws_szSeriesS.l0 k l0 (wrap64 (a1 - (l0.length : Int))) 0)
theorem laws_szSeriesS.mono_l : ∀ k, (∀ y0 y1 y2, LeO (laws_szSeriesS.l0 k y0 y1 y2) (laws_szSeriesS.l0 (k + 1) y0 y1 y2))
 | 0 => fun _ _ _ r h => by simp [laws_szSeriesS.l0] at h
 | k + 1 => by
  have ih0 := laws_szSeriesS.mono_l k
  ·intro y0 y1 y2
   unfold laws_szSeriesS.l0
   repeat' first
   | (with_reducible exact ih0 _ _ _)
   | (with_reducible exact laws_szSeries.mono _ _ _ _)
   | (with_reducible exact LeO.refl _)
   | (with_reducible exact LeO.none _)
   | (with_reducible refine LeO.ite ?_ ?_)
   | (with_reducible refine LeO.bind ?_ (fun _ => ?_))
   | exact ih0 _ _ _
   | exact laws_szSeries.mono _ _ _ _
   | exact LeO.none _
   | refine LeO.ite ?_ ?_
   | refine LeO.bind ?_ (fun _ => ?_)
theorem laws_szSeriesS.mono : ∀ a0 a1 k, LeO (laws_szSeriesS.f k a0 a1) (laws_szSeriesS.f (k + 1) a0 a1) := by
 intro a0 a1 k
 have ih0 := laws_szSeriesS.mono_l k
 unfold laws_szSeriesS.f
 repeat' first
   | (with_reducible exact ih0 _ _ _)
   | (with_reducible exact laws_szSeries.mono _ _ _ _)
   | (with_reducible exact LeO.refl _)
   | (with_reducible exact LeO.none _)
   | (with_reducible refine LeO.ite ?_ ?_)
   | (with_reducible refine LeO.bind ?_ (fun _ => ?_))
   | exact ih0 _ _ _
   | exact laws_szSeries.mono _ _ _ _
   | exact LeO.none _
   | refine LeO.ite ?_ ?_
   | refine LeO.bind ?_ (fun _ => ?_)
set_option maxHeartbeats 8000000 in
set_option maxRecDepth 100000 in
theorem laws_szSeriesS.calls (k : Nat) (A0 : Option Addr) (c0 : Nat) (l0 : List (S100)) (a1 : Int) (r : Int) (w : World) (hr0 : Kd.C k100 w A0 l0.length l0) (hc0 : l0.length ≤ c0) (h : laws_szSeriesS.f k l0 a1 = some r) :
  Calls Try.prog 41 #[.slice A0 l0.length c0, .int .i64 a1] w fun e w' => e = .returned (.int .i64 r) ∧ Below w.heap.size w w' := by
 have hu100 := Try.underlying100
 have HR0 := Aside0.mk hr0
 have HC0 := Aside0.mk hc0
 clear hr0 hc0
 have HB := Aside0.mk (Below.refl w.heap.size w)
 have H : (if (wrap64 (a1 - (l0.length : Int))) < 0 then (some (-1)) else (laws_szSeriesS.l0 k l0 (wrap64 (a1 - (l0.length : Int))) 0)) = some r := h
 clear h
 by_cases c3 : (wrap64 (a1 - (l0.length : Int))) < 0
 ·rw [if_pos c3] at H
  have c3b0 : decide ((wrap64 (a1 - (l0.length : Int))) < 0) = true := decide_eq_true c3
  clear c3
  obtain rfl := Option.some.inj H
  go_enter Try.func41, Try.ntmps41
  go_wp2
  go_ret
  exact ⟨by first | rfl | (simp [errW_none, errW_some] <;> rfl) | (simp [*, errW_none, errW_some] <;> rfl) | (simp [*, Go.Proofs.Ythgeohdpjedhnaa.Gt.nil_bne]; done), bl_⟩
 ·rw [if_neg c3] at H
  have c3b0 : decide ((wrap64 (a1 - (l0.length : Int))) < 0) = false := decide_eq_false c3
  clear c3
  have H' := Aside0.mk H
  clear H
  go_enter Try.func41, Try.ntmps41
  go_wp2
  go_loopg [1, 5] k (fun kq v1 v5 w' => ∃ (x1_1 : Int) (x5_1 : Int), v1 = .int .i64 x1_1 ∧ v5 = .int .i64 x5_1 ∧ Aside0 (laws_szSeriesS.l0 kq l0 x1_1 x5_1 = some r) ∧ Aside0 (kq ≤ k) ∧ Aside0 (Below w.heap.size w w'))
  case atStart => exact ⟨(wrap64 (a1 - (l0.length : Int))), (0), (by first | rfl | (simp; done) | (simp [*]; done)), (by first | rfl | (simp; done) | (simp [*]; done)), H', ⟨Nat.le_refl _⟩, ⟨bl_⟩⟩
  case round =>
   clear H'
   try clear p2
   try clear c3
   try clear c3b0
   obtain ⟨x1_1, x5_1, rfl, rfl, HA, HK1, HB⟩ := hrel
   cases gk with
   | zero => exact absurd HA.out (by simp [laws_szSeriesS.l0])
   | succ k1 =>
    have H := HA.out
    clear HA
    simp only [laws_szSeriesS.l0] at H
    by_cases c4 : x5_1 < (l0.length : Int)
    ·rw [if_pos c4] at H
     have c4b0 : decide (x5_1 < (l0.length : Int)) = true := decide_eq_true c4
     clear c4
     by_cases c5 : 0 ≤ x5_1
     ·rw [if_pos c5] at H
      have c5b0 : decide (0 ≤ x5_1) = true := decide_eq_true c5
      clear c5
      replace H := Option.bind_eq_some_iff.mp H
      obtain ⟨t508, A60, H⟩ := H
      replace H : (if t508 < 0 then (some (-1)) else (laws_szSeriesS.l0 k1 l0 t508 (wrap64 (x5_1 + 1)))) = some r := H
      have A6 := Aside0.mk A60
      clear A60
      by_cases c7 : t508 < 0
      ·rw [if_pos c7] at H
       have c7b0 : decide (t508 < 0) = true := decide_eq_true c7
       clear c7
       obtain rfl := Option.some.inj H
       have p507 : 0 ≤ (x5_1 : Int) := od_
       have q507 : x5_1 < (l0.length : Int) := od_
       obtain ⟨ad507, A507_0, c507_0, A507_1, c507_1, e507, hx507_0, hx507_1, hl507_0, hi507_0, hl507_1, hi507_1⟩ := at_T100 HR0.out x5_1 p507 q507
       cases e507
       replace hx507_0 := kp_ HB hx507_0
       replace hx507_1 := kp_ HB hx507_1
       have HR507_0 := Aside0.mk hi507_0
       have HC507_0 := Aside0.mk hl507_0
       clear hi507_0 hl507_0
       have HR507_1 := Aside0.mk hi507_1
       have HC507_1 := Aside0.mk hl507_1
       clear hi507_1 hl507_1
       replace p507 := eq_true p507
       replace q507 := eq_true q507
       go_wp2_with (first | ((with_reducible refine gate_callee (f := 90) rfl ?_); refine goesL_ (some 23) rfl rfl Try.func90 (by kernel_rfl) rfl #[.agg #[.slice A507_0 ((rd_T100 l0 x5_1).f0).length c507_0, .slice A507_1 ((rd_T100 l0 x5_1).f1).length c507_1], .int .i64 x1_1] rfl (by (try simp only [List.map_toArray, List.map_cons, List.map_nil]); first | done | rfl | (simp only [List.length_drop, List.length_take]; rfl)) ?_; (with_reducible refine (laws_szSeries.calls k1 _ _ ((rd_T100 l0 x5_1).f0) _ _ ((rd_T100 l0 x5_1).f1) x1_1 t508 _ ?side1 ?side2 ?side3 ?side4 A6.out).mono ?_); (case side1 => repeat (first | exact (Kd.C_below HR507_0.out HB.out) | (with_reducible refine Kd.C_alloc ?_ _) | (with_reducible refine Kd.C_drewN ?_ _) | (with_reducible refine Kd.C_drew ?_))); (case side2 => exact HC507_0.out); (case side3 => repeat (first | exact (Kd.C_below HR507_1.out HB.out) | (with_reducible refine Kd.C_alloc ?_ _) | (with_reducible refine Kd.C_drewN ?_ _) | (with_reducible refine Kd.C_drew ?_))); (case side4 => exact HC507_1.out); rintro e w8 ⟨rfl, hb⟩; refine ⟨_, rfl, ?_⟩; have n0_ := Aside0.mk (below_step bl_ hb); clear HB; have HB := n0_; clear n0_; (try clear hb); (try clear hb2); (try clear hk); (try clear hi)))
       go_ret
       exact ⟨by first | rfl | (simp [errW_none, errW_some] <;> rfl) | (simp [*, errW_none, errW_some] <;> rfl) | (simp [*, Go.Proofs.Ythgeohdpjedhnaa.Gt.nil_bne]; done), bl_⟩
      ·rw [if_neg c7] at H
       have c7b0 : decide (t508 < 0) = false := decide_eq_false c7
       clear c7
       have H' := Aside0.mk H
       clear H
       have p507 : 0 ≤ (x5_1 : Int) := od_
       have q507 : x5_1 < (l0.length : Int) := od_
       obtain ⟨ad507, A507_0, c507_0, A507_1, c507_1, e507, hx507_0, hx507_1, hl507_0, hi507_0, hl507_1, hi507_1⟩ := at_T100 HR0.out x5_1 p507 q507
       cases e507
       replace hx507_0 := kp_ HB hx507_0
       replace hx507_1 := kp_ HB hx507_1
       have HR507_0 := Aside0.mk hi507_0
       have HC507_0 := Aside0.mk hl507_0
       clear hi507_0 hl507_0
       have HR507_1 := Aside0.mk hi507_1
       have HC507_1 := Aside0.mk hl507_1
       clear hi507_1 hl507_1
       replace p507 := eq_true p507
       replace q507 := eq_true q507
       go_wp2_with (first | ((with_reducible refine gate_callee (f := 90) rfl ?_); refine goesL_ (some 23) rfl rfl Try.func90 (by kernel_rfl) rfl #[.agg #[.slice A507_0 ((rd_T100 l0 x5_1).f0).length c507_0, .slice A507_1 ((rd_T100 l0 x5_1).f1).length c507_1], .int .i64 x1_1] rfl (by (try simp only [List.map_toArray, List.map_cons, List.map_nil]); first | done | rfl | (simp only [List.length_drop, List.length_take]; rfl)) ?_; (with_reducible refine (laws_szSeries.calls k1 _ _ ((rd_T100 l0 x5_1).f0) _ _ ((rd_T100 l0 x5_1).f1) x1_1 t508 _ ?side1 ?side2 ?side3 ?side4 A6.out).mono ?_); (case side1 => repeat (first | exact (Kd.C_below HR507_0.out HB.out) | (with_reducible refine Kd.C_alloc ?_ _) | (with_reducible refine Kd.C_drewN ?_ _) | (with_reducible refine Kd.C_drew ?_))); (case side2 => exact HC507_0.out); (case side3 => repeat (first | exact (Kd.C_below HR507_1.out HB.out) | (with_reducible refine Kd.C_alloc ?_ _) | (with_reducible refine Kd.C_drewN ?_ _) | (with_reducible refine Kd.C_drew ?_))); (case side4 => exact HC507_1.out); rintro e w9 ⟨rfl, hb⟩; refine ⟨_, rfl, ?_⟩; have n0_ := Aside0.mk (below_step bl_ hb); clear HB; have HB := n0_; clear n0_; (try clear hb); (try clear hb2); (try clear hk); (try clear hi)))
       go_roundg k1
       case measure => have := HK1.out; omega
       case rel => exact ⟨(t508), (wrap64 (x5_1 + 1)), (by first | rfl | (simp; done) | (simp [*]; done)), (by first | rfl | (simp; done) | (simp [*]; done)), H', ⟨by have := HK1.out; omega⟩, ⟨bl_⟩⟩
     ·rw [if_neg c5] at H
      exact absurd H (by simp)
    ·rw [if_neg c4] at H
     have c4b0 : decide (x5_1 < (l0.length : Int)) = false := decide_eq_false c4
     clear c4
     obtain rfl := Option.some.inj H
     go_wp2
     go_ret
     exact ⟨by first | rfl | (simp [errW_none, errW_some] <;> rfl) | (simp [*, errW_none, errW_some] <;> rfl) | (simp [*, Go.Proofs.Ythgeohdpjedhnaa.Gt.nil_bne]; done), bl_⟩

/-! ### spec_l7Named: function 91 -/
def spec_l7Named.f (k : Nat) (l0 : List (S86)) : Option (Bool) := (spec_GoodLabels.f k l0).bind fun t511 => (if t511 = true then ((spec_l2Of.f k l0 (⟨#[95, 110, 97, 109, 101]⟩ : ByteArray)).bind fun t512 => (some (t512.toList != ([] : List UInt8)))) else (some false))
theorem spec_l7Named.mono : ∀ a0 k, LeO (spec_l7Named.f k a0) (spec_l7Named.f (k + 1) a0) := by
 intro a0 k
 unfold spec_l7Named.f
 repeat' first
   | (with_reducible exact spec_GoodLabels.mono _ _)
   | (with_reducible exact spec_l2Of.mono _ _ _)
   | (with_reducible exact LeO.refl _)
   | (with_reducible exact LeO.none _)
   | (with_reducible refine LeO.ite ?_ ?_)
   | (with_reducible refine LeO.bind ?_ (fun _ => ?_))
   | exact spec_GoodLabels.mono _ _
   | exact spec_l2Of.mono _ _ _
   | exact LeO.none _
   | refine LeO.ite ?_ ?_
   | refine LeO.bind ?_ (fun _ => ?_)
set_option maxHeartbeats 8000000 in
set_option maxRecDepth 100000 in
theorem spec_l7Named.calls (k : Nat) (A0 : Option Addr) (c0 : Nat) (l0 : List (S86)) (r : Bool) (w : World) (hr0 : Kd.C k86 w A0 l0.length l0) (hc0 : l0.length ≤ c0) (h : spec_l7Named.f k l0 = some r) :
  Calls Try.prog 91 #[.slice A0 l0.length c0] w fun e w' => e = .returned (.bool r) ∧ Below w.heap.size w w' := by
 have HR0 := Aside0.mk hr0
 have HC0 := Aside0.mk hc0
 clear hr0 hc0
 have HB := Aside0.mk (Below.refl w.heap.size w)
 have H : ((spec_GoodLabels.f k l0).bind fun t511 => (if t511 = true then ((spec_l2Of.f k l0 (⟨#[95, 110, 97, 109, 101]⟩ : ByteArray)).bind fun t512 => (some (t512.toList != ([] : List UInt8)))) else (some false))) = some r := h
 clear h
 replace H := Option.bind_eq_some_iff.mp H
 obtain ⟨t511, A20, H⟩ := H
 replace H : (if t511 = true then ((spec_l2Of.f k l0 (⟨#[95, 110, 97, 109, 101]⟩ : ByteArray)).bind fun t512 => (some (t512.toList != ([] : List UInt8)))) else (some false)) = some r := H
 have A2 := Aside0.mk A20
 clear A20
 by_cases c3 : t511 = true
 ·subst c3
  have H1 : ((spec_l2Of.f k l0 (⟨#[95, 110, 97, 109, 101]⟩ : ByteArray)).bind fun t512 => (some (t512.toList != ([] : List UInt8)))) = some r := by rw [if_pos rfl] at H; exact H
  clear H
  have H := H1
  clear H1
  replace H := Option.bind_eq_some_iff.mp H
  obtain ⟨t512, A40, H⟩ := H
  replace H : (some (t512.toList != ([] : List UInt8))) = some r := H
  have A4 := Aside0.mk A40
  clear A40
  obtain rfl := Option.some.inj H
  go_enter Try.func91, Try.ntmps91
  go_wp2_with (first | ((with_reducible refine gate_callee (f := 64) rfl ?_); refine goesL_ (some 4) rfl rfl Try.func64 (by kernel_rfl) rfl #[.slice A0 l0.length c0] rfl (by (try simp only [List.map_toArray, List.map_cons, List.map_nil]); first | done | rfl | (simp only [List.length_drop, List.length_take]; rfl)) ?_; (with_reducible refine (spec_GoodLabels.calls k _ _ l0 true _ ?side1 ?side2 A2.out).mono ?_); (case side1 => repeat (first | exact HR0.out | (with_reducible refine Kd.C_alloc ?_ _) | (with_reducible refine Kd.C_drewN ?_ _) | (with_reducible refine Kd.C_drew ?_))); (case side2 => exact HC0.out); rintro e w5 ⟨rfl, hb⟩; refine ⟨_, rfl, ?_⟩; have n0_ := Aside0.mk (below_step bl_ hb); clear HB; have HB := n0_; clear n0_; (try clear hb); (try clear hb2); (try clear hk); (try clear hi)) | (go_at_call 132; (with_reducible refine (spec_l2Of.calls k _ _ l0 (⟨#[95, 110, 97, 109, 101]⟩ : ByteArray) t512 _ ?side1 ?side2 A4.out).mono ?_); (case side1 => repeat (first | exact (Kd.C_below HR0.out HB.out) | (with_reducible refine Kd.C_alloc ?_ _) | (with_reducible refine Kd.C_drewN ?_ _) | (with_reducible refine Kd.C_drew ?_))); (case side2 => exact HC0.out); rintro e w6 ⟨rfl, hb⟩; have n0_ := Aside0.mk (below_step bl_ hb); clear HB; have HB := n0_; clear n0_; (try clear hb); (try clear hb2); (try clear hk); (try clear hi)))
  go_ret
  exact ⟨by first | rfl | (simp [errW_none, errW_some] <;> rfl) | (simp [*, errW_none, errW_some] <;> rfl) | (simp [*, Go.Proofs.Ythgeohdpjedhnaa.Gt.nil_bne]; done), bl_⟩
 ·replace c3 := Bool.eq_false_iff.mpr c3
  subst c3
  have H1 : (some false) = some r := by rw [if_neg (show ¬ (false = true) by decide)] at H; exact H
  clear H
  have H := H1
  clear H1
  obtain rfl := Option.some.inj H
  go_enter Try.func91, Try.ntmps91
  go_wp2_with (first | ((with_reducible refine gate_callee (f := 64) rfl ?_); refine goesL_ (some 4) rfl rfl Try.func64 (by kernel_rfl) rfl #[.slice A0 l0.length c0] rfl (by (try simp only [List.map_toArray, List.map_cons, List.map_nil]); first | done | rfl | (simp only [List.length_drop, List.length_take]; rfl)) ?_; (with_reducible refine (spec_GoodLabels.calls k _ _ l0 false _ ?side1 ?side2 A2.out).mono ?_); (case side1 => repeat (first | exact HR0.out | (with_reducible refine Kd.C_alloc ?_ _) | (with_reducible refine Kd.C_drewN ?_ _) | (with_reducible refine Kd.C_drew ?_))); (case side2 => exact HC0.out); rintro e w7 ⟨rfl, hb⟩; refine ⟨_, rfl, ?_⟩; have n0_ := Aside0.mk (below_step bl_ hb); clear HB; have HB := n0_; clear n0_; (try clear hb); (try clear hb2); (try clear hk); (try clear hi)))
  go_ret
  exact ⟨by first | rfl | (simp [errW_none, errW_some] <;> rfl) | (simp [*, errW_none, errW_some] <;> rfl) | (simp [*, Go.Proofs.Ythgeohdpjedhnaa.Gt.nil_bne]; done), bl_⟩

/-! ### spec_l3Time: function 101 -/
def spec_l3Time.f (a0 : Int) : Option (Bool) := if a0 ≥ 0 then (some (decide (a0 ≤ 1000000000000))) else (some false)
set_option maxHeartbeats 8000000 in
set_option maxRecDepth 100000 in
theorem spec_l3Time.calls (a0 : Int) (r : Bool) (w : World) (h : spec_l3Time.f a0 = some r) :
  Calls Try.prog 101 #[.int .i64 a0] w fun e w' => e = .returned (.bool r) ∧ Drawn0 w w' := by
 have H : (if a0 ≥ 0 then (some (decide (a0 ≤ 1000000000000))) else (some false)) = some r := h
 clear h
 by_cases c2 : a0 ≥ 0
 ·rw [if_pos c2] at H
  have c2b0 : decide (0 ≤ a0) = true := decide_eq_true c2
  clear c2
  obtain rfl := Option.some.inj H
  go_enter Try.func101, Try.ntmps101
  go_wp2
  go_ret
  exact ⟨by first | rfl | (simp; done) | (simp [*]; done), by repeat (first | exact Drawn0.refl _ | apply Drawn0.step)⟩
 ·rw [if_neg c2] at H
  have c2b0 : decide (0 ≤ a0) = false := decide_eq_false c2
  clear c2
  obtain rfl := Option.some.inj H
  go_enter Try.func101, Try.ntmps101
  go_wp2
  go_ret
  exact ⟨by first | rfl | (simp; done) | (simp [*]; done), by repeat (first | exact Drawn0.refl _ | apply Drawn0.step)⟩

/-! ### spec_GoodSamples: function 92 -/
def spec_GoodSamples.l0 : Nat → List (S115) → List (S115) → Int → Int → Option (Bool)
 | 0, _, _, _, _ => none
 | k + 1, x0, x5, x6, x7 => if x7 < x6 then (if 0 ≤ x7 then (if x7 < (x5.length : Int) then ((spec_l3Time.f ((rd_T115 x5 x7).f0)).bind fun t515 => (if t515 = true then (if x7 > 0 then (if 0 ≤ (wrap64 (x7 - 1)) then (if (wrap64 (x7 - 1)) < (x0.length : Int) then (if ((rd_T115 x0 (wrap64 (x7 - 1))).f0) ≥ ((rd_T115 x5 x7).f0) then (some false) else (spec_GoodSamples.l0 k x0 x5 x6 (wrap64 (x7 + 1)))) else (none)) else (none)) else (spec_GoodSamples.l0 k x0 x5 x6 (wrap64 (x7 + 1)))) else (some false))) else (none)) else (none)) else (some (decide ((x0.length : Int) ≤ 2000)))
def spec_GoodSamples.f (k : Nat) (l0 : List (S115)) : Option (Bool) := spec_GoodSamples.l0 k l0 l0 (l0.length : Int) 0
theorem spec_GoodSamples.mono_l : ∀ k, (∀ y0 y1 y2 y3, LeO (spec_GoodSamples.l0 k y0 y1 y2 y3) (spec_GoodSamples.l0 (k + 1) y0 y1 y2 y3))
 | 0 => fun _ _ _ _ r h => by simp [spec_GoodSamples.l0] at h
 | k + 1 => by
  have ih0 := spec_GoodSamples.mono_l k
  ·intro y0 y1 y2 y3
   unfold spec_GoodSamples.l0
   repeat' first
   | (with_reducible exact ih0 _ _ _ _)
   | (with_reducible exact LeO.refl _)
   | (with_reducible exact LeO.none _)
   | (with_reducible refine LeO.ite ?_ ?_)
   | (with_reducible refine LeO.bind ?_ (fun _ => ?_))
   | exact ih0 _ _ _ _
   | exact LeO.none _
   | refine LeO.ite ?_ ?_
   | refine LeO.bind ?_ (fun _ => ?_)
theorem spec_GoodSamples.mono : ∀ a0 k, LeO (spec_GoodSamples.f k a0) (spec_GoodSamples.f (k + 1) a0) := by
 intro a0 k
 have ih0 := spec_GoodSamples.mono_l k
 unfold spec_GoodSamples.f
 repeat' first
   | (with_reducible exact ih0 _ _ _ _)
   | (with_reducible exact LeO.refl _)
   | (with_reducible exact LeO.none _)
   | (with_reducible refine LeO.ite ?_ ?_)
   | (with_reducible refine LeO.bind ?_ (fun _ => ?_))
   | exact ih0 _ _ _ _
   | exact LeO.none _
   | refine LeO.ite ?_ ?_
   | refine LeO.bind ?_ (fun _ => ?_)
set_option maxHeartbeats 8000000 in
set_option maxRecDepth 100000 in
theorem spec_GoodSamples.calls (k : Nat) (A0 : Option Addr) (c0 : Nat) (l0 : List (S115)) (r : Bool) (w : World) (hr0 : Kd.C k115 w A0 l0.length l0) (hc0 : l0.length ≤ c0) (h : spec_GoodSamples.f k l0 = some r) :
  Calls Try.prog 92 #[.slice A0 l0.length c0] w fun e w' => e = .returned (.bool r) ∧ Below w.heap.size w w' := by
 have hu115 := Try.underlying115
 have HR0 := Aside0.mk hr0
 have HC0 := Aside0.mk hc0
 clear hr0 hc0
 have HB := Aside0.mk (Below.refl w.heap.size w)
 have H : (spec_GoodSamples.l0 k l0 l0 (l0.length : Int) 0) = some r := h
 clear h
 have H' := Aside0.mk H
 clear H
 go_enter Try.func92, Try.ntmps92
 go_wp2
 repeat (go_quiet (fail); try go_wp2)
 go_loopg [7] k (fun kq v7 w' => ∃ (x7_1 : Int), v7 = .int .i64 x7_1 ∧ Aside0 (spec_GoodSamples.l0 kq l0 l0 (l0.length : Int) x7_1 = some r) ∧ Aside0 (kq ≤ k) ∧ Aside0 (Below w.heap.size w w'))
 case atStart => exact ⟨(0), (by first | rfl | (simp; done) | (simp [*]; done)), H', ⟨Nat.le_refl _⟩, ⟨bl_⟩⟩
 case round =>
  clear H'
  obtain ⟨x7_1, rfl, HA, HK1, HB⟩ := hrel
  cases gk with
  | zero => exact absurd HA.out (by simp [spec_GoodSamples.l0])
  | succ k1 =>
   have H := HA.out
   clear HA
   simp only [spec_GoodSamples.l0] at H
   by_cases c2 : x7_1 < (l0.length : Int)
   ·rw [if_pos c2] at H
    have c2b0 : decide (x7_1 < (l0.length : Int)) = true := decide_eq_true c2
    clear c2
    by_cases c3 : 0 ≤ x7_1
    ·rw [if_pos c3] at H
     have c3b0 : decide (0 ≤ x7_1) = true := decide_eq_true c3
     clear c3
     by_cases c4 : x7_1 < (l0.length : Int)
     ·rw [if_pos c4] at H
      have c4b0 : decide (x7_1 < (l0.length : Int)) = true := decide_eq_true c4
      clear c4
      replace H := Option.bind_eq_some_iff.mp H
      obtain ⟨t515, A50, H⟩ := H
      replace H : (if t515 = true then (if x7_1 > 0 then (if 0 ≤ (wrap64 (x7_1 - 1)) then (if (wrap64 (x7_1 - 1)) < (l0.length : Int) then (if ((rd_T115 l0 (wrap64 (x7_1 - 1))).f0) ≥ ((rd_T115 l0 x7_1).f0) then (some false) else (spec_GoodSamples.l0 k1 l0 l0 (l0.length : Int) (wrap64 (x7_1 + 1)))) else (none)) else (none)) else (spec_GoodSamples.l0 k1 l0 l0 (l0.length : Int) (wrap64 (x7_1 + 1)))) else (some false)) = some r := H
      have A5 := Aside0.mk A50
      clear A50
      by_cases c6 : t515 = true
      ·subst c6
       have H1 : (if x7_1 > 0 then (if 0 ≤ (wrap64 (x7_1 - 1)) then (if (wrap64 (x7_1 - 1)) < (l0.length : Int) then (if ((rd_T115 l0 (wrap64 (x7_1 - 1))).f0) ≥ ((rd_T115 l0 x7_1).f0) then (some false) else (spec_GoodSamples.l0 k1 l0 l0 (l0.length : Int) (wrap64 (x7_1 + 1)))) else (none)) else (none)) else (spec_GoodSamples.l0 k1 l0 l0 (l0.length : Int) (wrap64 (x7_1 + 1)))) = some r := by rw [if_pos rfl] at H; exact H
       clear H
       have H := H1
       clear H1
       by_cases c7 : x7_1 > 0
       ·rw [if_pos c7] at H
        have c7b0 : decide (0 < x7_1) = true := decide_eq_true c7
        clear c7
        obtain ⟨ji8, hji8⟩ : ∃ j_ : Int, (wrap64 (x7_1 - 1)) = j_ := ⟨_, rfl⟩
        replace H : (if 0 ≤ (ji8) then (if (ji8) < (l0.length : Int) then (if ((rd_T115 l0 (ji8)).f0) ≥ ((rd_T115 l0 x7_1).f0) then (some false) else (spec_GoodSamples.l0 k1 l0 l0 (l0.length : Int) (wrap64 (x7_1 + 1)))) else (none)) else (none)) = some r := by first | (rw [hji8] at H; exact H) | (simp only [hji8] at H ⊢; exact H)
        (try rw [hji8] at A5)
        have hji8w : (IntKind.i64.wrap (x7_1 - 1)) = ji8 := (i64_w _).trans hji8
        by_cases c9 : 0 ≤ (ji8)
        ·rw [if_pos c9] at H
         have c9b0 : decide (0 ≤ (ji8)) = true := decide_eq_true c9
         clear c9
         by_cases c10 : (ji8) < (l0.length : Int)
         ·rw [if_pos c10] at H
          have c10b0 : decide ((ji8) < (l0.length : Int)) = true := decide_eq_true c10
          clear c10
          by_cases c11 : ((rd_T115 l0 (ji8)).f0) ≥ ((rd_T115 l0 x7_1).f0)
          ·rw [if_pos c11] at H
           have c11b0 : decide (((rd_T115 l0 x7_1).f0) ≤ ((rd_T115 l0 (ji8)).f0)) = true := decide_eq_true c11
           clear c11
           obtain rfl := Option.some.inj H
           have p513 : 0 ≤ (x7_1 : Int) := od_
           have q513 : x7_1 < (l0.length : Int) := od_
           obtain ⟨ad513, e513, hx513_0, hx513_1⟩ := at_T115 HR0.out x7_1 p513 q513
           cases e513
           replace hx513_0 := kp_ HB hx513_0
           replace hx513_1 := kp_ HB hx513_1
           replace p513 := eq_true p513
           replace q513 := eq_true q513
           go_wp2_with (first | ((with_reducible refine gate_dst (N := 4) rfl ?_); refine box_event ?hg (N := 4) ?hd (cs := #[.int .i64 0, .int .i64 0]) (t := 115) ?hr ?_; (case hd => rfl); (case hg => rfl); (case hr => first | (go_simp; done) | (go_simp; rfl)); intro gb514 hg w12 hbox hb; have n0_ := Aside0.mk (below_step bl_ hb); have n1_ := Aside0.mk (hbox); have n2_ := Aside0.mk ((by rw [hg]; exact (below_size bl_) : w.heap.size ≤ gb514)); have n3_ := Aside0.mk ((by rw [hg]; exact (below_size bl_) : w.heap.size ≤ gb514)); clear HB; have HB := n0_; have BK514 := n1_; have GW514 := n2_; have GE514 := n3_; clear n0_ n1_ n2_ n3_; clear hb hbox hg; have hcz13_0 : w12.cell? ⟨gb514, 0, none⟩ = some (.int .i64 0) := (blk_cell BK514.out 0).trans rfl; have hcz13_1 : w12.cell? ⟨gb514, 1, none⟩ = some (.int .i64 0) := (blk_cell BK514.out 1).trans rfl; have hfz13_0 := blk_frozen BK514.out 0; have hfz13_1 := blk_frozen BK514.out 1) | (go_at_call 101; (with_reducible refine (spec_l3Time.calls ((rd_T115 l0 x7_1).f0) true _ A5.out).mono ?_); rintro e w' ⟨rfl, ⟨nd, rfl⟩⟩; (try exact dd_); have p516 : 0 ≤ ((ji8) : Int) := od_; have q516 : (ji8) < (l0.length : Int) := od_; obtain ⟨ad516, e516, hx516_0, hx516_1⟩ := at_T115 HR0.out (ji8) p516 q516; obtain rfl : ad513 = ad516 := (by injection e516); have hn516_0 : ad513.block ≠ gb514 := Nat.ne_of_lt (Nat.lt_of_lt_of_le (by have := World.block_lt_of_cell? _ _ hx516_0; first | rwa [add_block] at this | exact this) GW514.out); have hn516_1 : ad513.block ≠ gb514 := Nat.ne_of_lt (Nat.lt_of_lt_of_le (by have := World.block_lt_of_cell? _ _ hx516_0; first | rwa [add_block] at this | exact this) GW514.out); replace hx516_0 := kp_ HB hx516_0; replace hx516_1 := kp_ HB hx516_1; replace hx516_0 := (cell_far (p := ⟨gb514, 0, none⟩) (by first | (rw [add_block]; exact hn516_0) | (show (Addr.add _ _).block ≠ _; rw [add_block]; exact hn516_0) | exact hn516_0) (.int .i64 ((rd_T115 l0 x7_1).f0))).trans hx516_0; replace hx516_1 := (cell_far (p := ⟨gb514, 0, none⟩) (by first | (rw [add_block]; exact hn516_0) | (show (Addr.add _ _).block ≠ _; rw [add_block]; exact hn516_0) | exact hn516_0) (.int .i64 ((rd_T115 l0 x7_1).f0))).trans hx516_1; replace hx516_0 := (cell_far (p := ⟨gb514, 1, none⟩) (by first | (rw [add_block]; exact hn516_1) | (show (Addr.add _ _).block ≠ _; rw [add_block]; exact hn516_1) | exact hn516_1) (.int .i64 ((rd_T115 l0 x7_1).f1))).trans hx516_0; replace hx516_1 := (cell_far (p := ⟨gb514, 1, none⟩) (by first | (rw [add_block]; exact hn516_1) | (show (Addr.add _ _).block ≠ _; rw [add_block]; exact hn516_1) | exact hn516_1) (.int .i64 ((rd_T115 l0 x7_1).f1))).trans hx516_1; (try have hy516_0 := fun (n_ : Nat) => (show ((((w12.drewN n_).setCell ⟨gb514, 0, none⟩ (.int .i64 ((rd_T115 l0 x7_1).f0))).setCell ⟨gb514, 1, none⟩ (.int .i64 ((rd_T115 l0 x7_1).f1)))).cell? _ = some _ from hx516_0)); (try have hy516_1 := fun (n_ : Nat) => (show ((((w12.drewN n_).setCell ⟨gb514, 0, none⟩ (.int .i64 ((rd_T115 l0 x7_1).f0))).setCell ⟨gb514, 1, none⟩ (.int .i64 ((rd_T115 l0 x7_1).f1)))).cell? _ = some _ from hx516_1)); clear hn516_0; clear hn516_1; replace p516 := eq_true p516; replace q516 := eq_true q516))
           repeat (go_quiet (first | ((with_reducible refine gate_dst (N := 4) rfl ?_); refine box_event ?hg (N := 4) ?hd (cs := #[.int .i64 0, .int .i64 0]) (t := 115) ?hr ?_; (case hd => rfl); (case hg => rfl); (case hr => first | (go_simp; done) | (go_simp; rfl)); intro gb514 hg w12 hbox hb; have n0_ := Aside0.mk (below_step bl_ hb); have n1_ := Aside0.mk (hbox); have n2_ := Aside0.mk ((by rw [hg]; exact (below_size bl_) : w.heap.size ≤ gb514)); have n3_ := Aside0.mk ((by rw [hg]; exact (below_size bl_) : w.heap.size ≤ gb514)); clear HB; have HB := n0_; have BK514 := n1_; have GW514 := n2_; have GE514 := n3_; clear n0_ n1_ n2_ n3_; clear hb hbox hg; have hcz13_0 : w12.cell? ⟨gb514, 0, none⟩ = some (.int .i64 0) := (blk_cell BK514.out 0).trans rfl; have hcz13_1 : w12.cell? ⟨gb514, 1, none⟩ = some (.int .i64 0) := (blk_cell BK514.out 1).trans rfl; have hfz13_0 := blk_frozen BK514.out 0; have hfz13_1 := blk_frozen BK514.out 1) | (go_at_call 101; (with_reducible refine (spec_l3Time.calls ((rd_T115 l0 x7_1).f0) true _ A5.out).mono ?_); rintro e w' ⟨rfl, ⟨nd, rfl⟩⟩; (try exact dd_); have p516 : 0 ≤ ((ji8) : Int) := od_; have q516 : (ji8) < (l0.length : Int) := od_; obtain ⟨ad516, e516, hx516_0, hx516_1⟩ := at_T115 HR0.out (ji8) p516 q516; obtain rfl : ad513 = ad516 := (by injection e516); have hn516_0 : ad513.block ≠ gb514 := Nat.ne_of_lt (Nat.lt_of_lt_of_le (by have := World.block_lt_of_cell? _ _ hx516_0; first | rwa [add_block] at this | exact this) GW514.out); have hn516_1 : ad513.block ≠ gb514 := Nat.ne_of_lt (Nat.lt_of_lt_of_le (by have := World.block_lt_of_cell? _ _ hx516_0; first | rwa [add_block] at this | exact this) GW514.out); replace hx516_0 := kp_ HB hx516_0; replace hx516_1 := kp_ HB hx516_1; replace hx516_0 := (cell_far (p := ⟨gb514, 0, none⟩) (by first | (rw [add_block]; exact hn516_0) | (show (Addr.add _ _).block ≠ _; rw [add_block]; exact hn516_0) | exact hn516_0) (.int .i64 ((rd_T115 l0 x7_1).f0))).trans hx516_0; replace hx516_1 := (cell_far (p := ⟨gb514, 0, none⟩) (by first | (rw [add_block]; exact hn516_0) | (show (Addr.add _ _).block ≠ _; rw [add_block]; exact hn516_0) | exact hn516_0) (.int .i64 ((rd_T115 l0 x7_1).f0))).trans hx516_1; replace hx516_0 := (cell_far (p := ⟨gb514, 1, none⟩) (by first | (rw [add_block]; exact hn516_1) | (show (Addr.add _ _).block ≠ _; rw [add_block]; exact hn516_1) | exact hn516_1) (.int .i64 ((rd_T115 l0 x7_1).f1))).trans hx516_0; replace hx516_1 := (cell_far (p := ⟨gb514, 1, none⟩) (by first | (rw [add_block]; exact hn516_1) | (show (Addr.add _ _).block ≠ _; rw [add_block]; exact hn516_1) | exact hn516_1) (.int .i64 ((rd_T115 l0 x7_1).f1))).trans hx516_1; (try have hy516_0 := fun (n_ : Nat) => (show ((((w12.drewN n_).setCell ⟨gb514, 0, none⟩ (.int .i64 ((rd_T115 l0 x7_1).f0))).setCell ⟨gb514, 1, none⟩ (.int .i64 ((rd_T115 l0 x7_1).f1)))).cell? _ = some _ from hx516_0)); (try have hy516_1 := fun (n_ : Nat) => (show ((((w12.drewN n_).setCell ⟨gb514, 0, none⟩ (.int .i64 ((rd_T115 l0 x7_1).f0))).setCell ⟨gb514, 1, none⟩ (.int .i64 ((rd_T115 l0 x7_1).f1)))).cell? _ = some _ from hx516_1)); clear hn516_0; clear hn516_1; replace p516 := eq_true p516; replace q516 := eq_true q516)); try go_wp2_with (first | ((with_reducible refine gate_dst (N := 4) rfl ?_); refine box_event ?hg (N := 4) ?hd (cs := #[.int .i64 0, .int .i64 0]) (t := 115) ?hr ?_; (case hd => rfl); (case hg => rfl); (case hr => first | (go_simp; done) | (go_simp; rfl)); intro gb514 hg w12 hbox hb; have n0_ := Aside0.mk (below_step bl_ hb); have n1_ := Aside0.mk (hbox); have n2_ := Aside0.mk ((by rw [hg]; exact (below_size bl_) : w.heap.size ≤ gb514)); have n3_ := Aside0.mk ((by rw [hg]; exact (below_size bl_) : w.heap.size ≤ gb514)); clear HB; have HB := n0_; have BK514 := n1_; have GW514 := n2_; have GE514 := n3_; clear n0_ n1_ n2_ n3_; clear hb hbox hg; have hcz13_0 : w12.cell? ⟨gb514, 0, none⟩ = some (.int .i64 0) := (blk_cell BK514.out 0).trans rfl; have hcz13_1 : w12.cell? ⟨gb514, 1, none⟩ = some (.int .i64 0) := (blk_cell BK514.out 1).trans rfl; have hfz13_0 := blk_frozen BK514.out 0; have hfz13_1 := blk_frozen BK514.out 1) | (go_at_call 101; (with_reducible refine (spec_l3Time.calls ((rd_T115 l0 x7_1).f0) true _ A5.out).mono ?_); rintro e w' ⟨rfl, ⟨nd, rfl⟩⟩; (try exact dd_); have p516 : 0 ≤ ((ji8) : Int) := od_; have q516 : (ji8) < (l0.length : Int) := od_; obtain ⟨ad516, e516, hx516_0, hx516_1⟩ := at_T115 HR0.out (ji8) p516 q516; obtain rfl : ad513 = ad516 := (by injection e516); have hn516_0 : ad513.block ≠ gb514 := Nat.ne_of_lt (Nat.lt_of_lt_of_le (by have := World.block_lt_of_cell? _ _ hx516_0; first | rwa [add_block] at this | exact this) GW514.out); have hn516_1 : ad513.block ≠ gb514 := Nat.ne_of_lt (Nat.lt_of_lt_of_le (by have := World.block_lt_of_cell? _ _ hx516_0; first | rwa [add_block] at this | exact this) GW514.out); replace hx516_0 := kp_ HB hx516_0; replace hx516_1 := kp_ HB hx516_1; replace hx516_0 := (cell_far (p := ⟨gb514, 0, none⟩) (by first | (rw [add_block]; exact hn516_0) | (show (Addr.add _ _).block ≠ _; rw [add_block]; exact hn516_0) | exact hn516_0) (.int .i64 ((rd_T115 l0 x7_1).f0))).trans hx516_0; replace hx516_1 := (cell_far (p := ⟨gb514, 0, none⟩) (by first | (rw [add_block]; exact hn516_0) | (show (Addr.add _ _).block ≠ _; rw [add_block]; exact hn516_0) | exact hn516_0) (.int .i64 ((rd_T115 l0 x7_1).f0))).trans hx516_1; replace hx516_0 := (cell_far (p := ⟨gb514, 1, none⟩) (by first | (rw [add_block]; exact hn516_1) | (show (Addr.add _ _).block ≠ _; rw [add_block]; exact hn516_1) | exact hn516_1) (.int .i64 ((rd_T115 l0 x7_1).f1))).trans hx516_0; replace hx516_1 := (cell_far (p := ⟨gb514, 1, none⟩) (by first | (rw [add_block]; exact hn516_1) | (show (Addr.add _ _).block ≠ _; rw [add_block]; exact hn516_1) | exact hn516_1) (.int .i64 ((rd_T115 l0 x7_1).f1))).trans hx516_1; (try have hy516_0 := fun (n_ : Nat) => (show ((((w12.drewN n_).setCell ⟨gb514, 0, none⟩ (.int .i64 ((rd_T115 l0 x7_1).f0))).setCell ⟨gb514, 1, none⟩ (.int .i64 ((rd_T115 l0 x7_1).f1)))).cell? _ = some _ from hx516_0)); (try have hy516_1 := fun (n_ : Nat) => (show ((((w12.drewN n_).setCell ⟨gb514, 0, none⟩ (.int .i64 ((rd_T115 l0 x7_1).f0))).setCell ⟨gb514, 1, none⟩ (.int .i64 ((rd_T115 l0 x7_1).f1)))).cell? _ = some _ from hx516_1)); clear hn516_0; clear hn516_1; replace p516 := eq_true p516; replace q516 := eq_true q516)))
           go_ret
           exact ⟨by first | rfl | (simp [errW_none, errW_some] <;> rfl) | (simp only [← hji8]; first | rfl | (simp [errW_none, errW_some] <;> rfl)) | (simp [*, errW_none, errW_some] <;> rfl) | (simp [*, Go.Proofs.Ythgeohdpjedhnaa.Gt.nil_bne]; done), by repeat (first | (with_reducible first | exact HB.out | apply below_alloc | apply pw_below_drewN | apply below_drew1 | refine below_set ?_ GE514.out) | exact HB.out)⟩
          ·rw [if_neg c11] at H
           have c11b0 : decide (((rd_T115 l0 x7_1).f0) ≤ ((rd_T115 l0 (ji8)).f0)) = false := decide_eq_false c11
           clear c11
           have H' := Aside0.mk H
           clear H
           have p513 : 0 ≤ (x7_1 : Int) := od_
           have q513 : x7_1 < (l0.length : Int) := od_
           obtain ⟨ad513, e513, hx513_0, hx513_1⟩ := at_T115 HR0.out x7_1 p513 q513
           cases e513
           replace hx513_0 := kp_ HB hx513_0
           replace hx513_1 := kp_ HB hx513_1
           replace p513 := eq_true p513
           replace q513 := eq_true q513
           go_wp2_with (first | ((with_reducible refine gate_dst (N := 4) rfl ?_); refine box_event ?hg (N := 4) ?hd (cs := #[.int .i64 0, .int .i64 0]) (t := 115) ?hr ?_; (case hd => rfl); (case hg => rfl); (case hr => first | (go_simp; done) | (go_simp; rfl)); intro gb514 hg w14 hbox hb; have n0_ := Aside0.mk (below_step bl_ hb); have n1_ := Aside0.mk (hbox); have n2_ := Aside0.mk ((by rw [hg]; exact (below_size bl_) : w.heap.size ≤ gb514)); have n3_ := Aside0.mk ((by rw [hg]; exact (below_size bl_) : w.heap.size ≤ gb514)); clear HB; have HB := n0_; have BK514 := n1_; have GW514 := n2_; have GE514 := n3_; clear n0_ n1_ n2_ n3_; clear hb hbox hg; have hcz15_0 : w14.cell? ⟨gb514, 0, none⟩ = some (.int .i64 0) := (blk_cell BK514.out 0).trans rfl; have hcz15_1 : w14.cell? ⟨gb514, 1, none⟩ = some (.int .i64 0) := (blk_cell BK514.out 1).trans rfl; have hfz15_0 := blk_frozen BK514.out 0; have hfz15_1 := blk_frozen BK514.out 1) | (go_at_call 101; (with_reducible refine (spec_l3Time.calls ((rd_T115 l0 x7_1).f0) true _ A5.out).mono ?_); rintro e w' ⟨rfl, ⟨nd, rfl⟩⟩; (try exact dd_); have p516 : 0 ≤ ((ji8) : Int) := od_; have q516 : (ji8) < (l0.length : Int) := od_; obtain ⟨ad516, e516, hx516_0, hx516_1⟩ := at_T115 HR0.out (ji8) p516 q516; obtain rfl : ad513 = ad516 := (by injection e516); have hn516_0 : ad513.block ≠ gb514 := Nat.ne_of_lt (Nat.lt_of_lt_of_le (by have := World.block_lt_of_cell? _ _ hx516_0; first | rwa [add_block] at this | exact this) GW514.out); have hn516_1 : ad513.block ≠ gb514 := Nat.ne_of_lt (Nat.lt_of_lt_of_le (by have := World.block_lt_of_cell? _ _ hx516_0; first | rwa [add_block] at this | exact this) GW514.out); replace hx516_0 := kp_ HB hx516_0; replace hx516_1 := kp_ HB hx516_1; replace hx516_0 := (cell_far (p := ⟨gb514, 0, none⟩) (by first | (rw [add_block]; exact hn516_0) | (show (Addr.add _ _).block ≠ _; rw [add_block]; exact hn516_0) | exact hn516_0) (.int .i64 ((rd_T115 l0 x7_1).f0))).trans hx516_0; replace hx516_1 := (cell_far (p := ⟨gb514, 0, none⟩) (by first | (rw [add_block]; exact hn516_0) | (show (Addr.add _ _).block ≠ _; rw [add_block]; exact hn516_0) | exact hn516_0) (.int .i64 ((rd_T115 l0 x7_1).f0))).trans hx516_1; replace hx516_0 := (cell_far (p := ⟨gb514, 1, none⟩) (by first | (rw [add_block]; exact hn516_1) | (show (Addr.add _ _).block ≠ _; rw [add_block]; exact hn516_1) | exact hn516_1) (.int .i64 ((rd_T115 l0 x7_1).f1))).trans hx516_0; replace hx516_1 := (cell_far (p := ⟨gb514, 1, none⟩) (by first | (rw [add_block]; exact hn516_1) | (show (Addr.add _ _).block ≠ _; rw [add_block]; exact hn516_1) | exact hn516_1) (.int .i64 ((rd_T115 l0 x7_1).f1))).trans hx516_1; (try have hy516_0 := fun (n_ : Nat) => (show ((((w14.drewN n_).setCell ⟨gb514, 0, none⟩ (.int .i64 ((rd_T115 l0 x7_1).f0))).setCell ⟨gb514, 1, none⟩ (.int .i64 ((rd_T115 l0 x7_1).f1)))).cell? _ = some _ from hx516_0)); (try have hy516_1 := fun (n_ : Nat) => (show ((((w14.drewN n_).setCell ⟨gb514, 0, none⟩ (.int .i64 ((rd_T115 l0 x7_1).f0))).setCell ⟨gb514, 1, none⟩ (.int .i64 ((rd_T115 l0 x7_1).f1)))).cell? _ = some _ from hx516_1)); clear hn516_0; clear hn516_1; replace p516 := eq_true p516; replace q516 := eq_true q516))
           repeat (go_quiet (first | ((with_reducible refine gate_dst (N := 4) rfl ?_); refine box_event ?hg (N := 4) ?hd (cs := #[.int .i64 0, .int .i64 0]) (t := 115) ?hr ?_; (case hd => rfl); (case hg => rfl); (case hr => first | (go_simp; done) | (go_simp; rfl)); intro gb514 hg w14 hbox hb; have n0_ := Aside0.mk (below_step bl_ hb); have n1_ := Aside0.mk (hbox); have n2_ := Aside0.mk ((by rw [hg]; exact (below_size bl_) : w.heap.size ≤ gb514)); have n3_ := Aside0.mk ((by rw [hg]; exact (below_size bl_) : w.heap.size ≤ gb514)); clear HB; have HB := n0_; have BK514 := n1_; have GW514 := n2_; have GE514 := n3_; clear n0_ n1_ n2_ n3_; clear hb hbox hg; have hcz15_0 : w14.cell? ⟨gb514, 0, none⟩ = some (.int .i64 0) := (blk_cell BK514.out 0).trans rfl; have hcz15_1 : w14.cell? ⟨gb514, 1, none⟩ = some (.int .i64 0) := (blk_cell BK514.out 1).trans rfl; have hfz15_0 := blk_frozen BK514.out 0; have hfz15_1 := blk_frozen BK514.out 1) | (go_at_call 101; (with_reducible refine (spec_l3Time.calls ((rd_T115 l0 x7_1).f0) true _ A5.out).mono ?_); rintro e w' ⟨rfl, ⟨nd, rfl⟩⟩; (try exact dd_); have p516 : 0 ≤ ((ji8) : Int) := od_; have q516 : (ji8) < (l0.length : Int) := od_; obtain ⟨ad516, e516, hx516_0, hx516_1⟩ := at_T115 HR0.out (ji8) p516 q516; obtain rfl : ad513 = ad516 := (by injection e516); have hn516_0 : ad513.block ≠ gb514 := Nat.ne_of_lt (Nat.lt_of_lt_of_le (by have := World.block_lt_of_cell? _ _ hx516_0; first | rwa [add_block] at this | exact this) GW514.out); have hn516_1 : ad513.block ≠ gb514 := Nat.ne_of_lt (Nat.lt_of_lt_of_le (by have := World.block_lt_of_cell? _ _ hx516_0; first | rwa [add_block] at this | exact this) GW514.out); replace hx516_0 := kp_ HB hx516_0; replace hx516_1 := kp_ HB hx516_1; replace hx516_0 := (cell_far (p := ⟨gb514, 0, none⟩) (by first | (rw [add_block]; exact hn516_0) | (show (Addr.add _ _).block ≠ _; rw [add_block]; exact hn516_0) | exact hn516_0) (.int .i64 ((rd_T115 l0 x7_1).f0))).trans hx516_0; replace hx516_1 := (cell_far (p := ⟨gb514, 0, none⟩) (by first | (rw [add_block]; exact hn516_0) | (show (Addr.add _ _).block ≠ _; rw [add_block]; exact hn516_0) | exact hn516_0) (.int .i64 ((rd_T115 l0 x7_1).f0))).trans hx516_1; replace hx516_0 := (cell_far (p := ⟨gb514, 1, none⟩) (by first | (rw [add_block]; exact hn516_1) | (show (Addr.add _ _).block ≠ _; rw [add_block]; exact hn516_1) | exact hn516_1) (.int .i64 ((rd_T115 l0 x7_1).f1))).trans hx516_0; replace hx516_1 := (cell_far (p := ⟨gb514, 1, none⟩) (by first | (rw [add_block]; exact hn516_1) | (show (Addr.add _ _).block ≠ _; rw [add_block]; exact hn516_1) | exact hn516_1) (.int .i64 ((rd_T115 l0 x7_1).f1))).trans hx516_1; (try have hy516_0 := fun (n_ : Nat) => (show ((((w14.drewN n_).setCell ⟨gb514, 0, none⟩ (.int .i64 ((rd_T115 l0 x7_1).f0))).setCell ⟨gb514, 1, none⟩ (.int .i64 ((rd_T115 l0 x7_1).f1)))).cell? _ = some _ from hx516_0)); (try have hy516_1 := fun (n_ : Nat) => (show ((((w14.drewN n_).setCell ⟨gb514, 0, none⟩ (.int .i64 ((rd_T115 l0 x7_1).f0))).setCell ⟨gb514, 1, none⟩ (.int .i64 ((rd_T115 l0 x7_1).f1)))).cell? _ = some _ from hx516_1)); clear hn516_0; clear hn516_1; replace p516 := eq_true p516; replace q516 := eq_true q516)); try go_wp2_with (first | ((with_reducible refine gate_dst (N := 4) rfl ?_); refine box_event ?hg (N := 4) ?hd (cs := #[.int .i64 0, .int .i64 0]) (t := 115) ?hr ?_; (case hd => rfl); (case hg => rfl); (case hr => first | (go_simp; done) | (go_simp; rfl)); intro gb514 hg w14 hbox hb; have n0_ := Aside0.mk (below_step bl_ hb); have n1_ := Aside0.mk (hbox); have n2_ := Aside0.mk ((by rw [hg]; exact (below_size bl_) : w.heap.size ≤ gb514)); have n3_ := Aside0.mk ((by rw [hg]; exact (below_size bl_) : w.heap.size ≤ gb514)); clear HB; have HB := n0_; have BK514 := n1_; have GW514 := n2_; have GE514 := n3_; clear n0_ n1_ n2_ n3_; clear hb hbox hg; have hcz15_0 : w14.cell? ⟨gb514, 0, none⟩ = some (.int .i64 0) := (blk_cell BK514.out 0).trans rfl; have hcz15_1 : w14.cell? ⟨gb514, 1, none⟩ = some (.int .i64 0) := (blk_cell BK514.out 1).trans rfl; have hfz15_0 := blk_frozen BK514.out 0; have hfz15_1 := blk_frozen BK514.out 1) | (go_at_call 101; (with_reducible refine (spec_l3Time.calls ((rd_T115 l0 x7_1).f0) true _ A5.out).mono ?_); rintro e w' ⟨rfl, ⟨nd, rfl⟩⟩; (try exact dd_); have p516 : 0 ≤ ((ji8) : Int) := od_; have q516 : (ji8) < (l0.length : Int) := od_; obtain ⟨ad516, e516, hx516_0, hx516_1⟩ := at_T115 HR0.out (ji8) p516 q516; obtain rfl : ad513 = ad516 := (by injection e516); have hn516_0 : ad513.block ≠ gb514 := Nat.ne_of_lt (Nat.lt_of_lt_of_le (by have := World.block_lt_of_cell? _ _ hx516_0; first | rwa [add_block] at this | exact this) GW514.out); have hn516_1 : ad513.block ≠ gb514 := Nat.ne_of_lt (Nat.lt_of_lt_of_le (by have := World.block_lt_of_cell? _ _ hx516_0; first | rwa [add_block] at this | exact this) GW514.out); replace hx516_0 := kp_ HB hx516_0; replace hx516_1 := kp_ HB hx516_1; replace hx516_0 := (cell_far (p := ⟨gb514, 0, none⟩) (by first | (rw [add_block]; exact hn516_0) | (show (Addr.add _ _).block ≠ _; rw [add_block]; exact hn516_0) | exact hn516_0) (.int .i64 ((rd_T115 l0 x7_1).f0))).trans hx516_0; replace hx516_1 := (cell_far (p := ⟨gb514, 0, none⟩) (by first | (rw [add_block]; exact hn516_0) | (show (Addr.add _ _).block ≠ _; rw [add_block]; exact hn516_0) | exact hn516_0) (.int .i64 ((rd_T115 l0 x7_1).f0))).trans hx516_1; replace hx516_0 := (cell_far (p := ⟨gb514, 1, none⟩) (by first | (rw [add_block]; exact hn516_1) | (show (Addr.add _ _).block ≠ _; rw [add_block]; exact hn516_1) | exact hn516_1) (.int .i64 ((rd_T115 l0 x7_1).f1))).trans hx516_0; replace hx516_1 := (cell_far (p := ⟨gb514, 1, none⟩) (by first | (rw [add_block]; exact hn516_1) | (show (Addr.add _ _).block ≠ _; rw [add_block]; exact hn516_1) | exact hn516_1) (.int .i64 ((rd_T115 l0 x7_1).f1))).trans hx516_1; (try have hy516_0 := fun (n_ : Nat) => (show ((((w14.drewN n_).setCell ⟨gb514, 0, none⟩ (.int .i64 ((rd_T115 l0 x7_1).f0))).setCell ⟨gb514, 1, none⟩ (.int .i64 ((rd_T115 l0 x7_1).f1)))).cell? _ = some _ from hx516_0)); (try have hy516_1 := fun (n_ : Nat) => (show ((((w14.drewN n_).setCell ⟨gb514, 0, none⟩ (.int .i64 ((rd_T115 l0 x7_1).f0))).setCell ⟨gb514, 1, none⟩ (.int .i64 ((rd_T115 l0 x7_1).f1)))).cell? _ = some _ from hx516_1)); clear hn516_0; clear hn516_1; replace p516 := eq_true p516; replace q516 := eq_true q516)))
           go_roundg k1
           case measure => have := HK1.out; omega
           case rel => exact ⟨(wrap64 (x7_1 + 1)), (by first | rfl | (simp; done) | (simp [*]; done)), H', ⟨by have := HK1.out; omega⟩, ⟨by repeat (first | (with_reducible first | exact HB.out | apply below_alloc | apply pw_below_drewN | apply below_drew1 | refine below_set ?_ GE514.out) | exact HB.out)⟩⟩
         ·rw [if_neg c10] at H
          exact absurd H (by simp)
        ·rw [if_neg c9] at H
         exact absurd H (by simp)
       ·rw [if_neg c7] at H
        have c7b0 : decide (0 < x7_1) = false := decide_eq_false c7
        clear c7
        have H' := Aside0.mk H
        clear H
        have p513 : 0 ≤ (x7_1 : Int) := od_
        have q513 : x7_1 < (l0.length : Int) := od_
        obtain ⟨ad513, e513, hx513_0, hx513_1⟩ := at_T115 HR0.out x7_1 p513 q513
        cases e513
        replace hx513_0 := kp_ HB hx513_0
        replace hx513_1 := kp_ HB hx513_1
        replace p513 := eq_true p513
        replace q513 := eq_true q513
        go_wp2_with (first | ((with_reducible refine gate_dst (N := 4) rfl ?_); refine box_event ?hg (N := 4) ?hd (cs := #[.int .i64 0, .int .i64 0]) (t := 115) ?hr ?_; (case hd => rfl); (case hg => rfl); (case hr => first | (go_simp; done) | (go_simp; rfl)); intro gb514 hg w16 hbox hb; have n0_ := Aside0.mk (below_step bl_ hb); have n1_ := Aside0.mk (hbox); have n2_ := Aside0.mk ((by rw [hg]; exact (below_size bl_) : w.heap.size ≤ gb514)); have n3_ := Aside0.mk ((by rw [hg]; exact (below_size bl_) : w.heap.size ≤ gb514)); clear HB; have HB := n0_; have BK514 := n1_; have GW514 := n2_; have GE514 := n3_; clear n0_ n1_ n2_ n3_; clear hb hbox hg; have hcz17_0 : w16.cell? ⟨gb514, 0, none⟩ = some (.int .i64 0) := (blk_cell BK514.out 0).trans rfl; have hcz17_1 : w16.cell? ⟨gb514, 1, none⟩ = some (.int .i64 0) := (blk_cell BK514.out 1).trans rfl; have hfz17_0 := blk_frozen BK514.out 0; have hfz17_1 := blk_frozen BK514.out 1) | (go_at_call 101; (with_reducible refine (spec_l3Time.calls ((rd_T115 l0 x7_1).f0) true _ A5.out).mono ?_); rintro e w' ⟨rfl, ⟨nd, rfl⟩⟩; (try exact dd_)))
        repeat (go_quiet (first | ((with_reducible refine gate_dst (N := 4) rfl ?_); refine box_event ?hg (N := 4) ?hd (cs := #[.int .i64 0, .int .i64 0]) (t := 115) ?hr ?_; (case hd => rfl); (case hg => rfl); (case hr => first | (go_simp; done) | (go_simp; rfl)); intro gb514 hg w16 hbox hb; have n0_ := Aside0.mk (below_step bl_ hb); have n1_ := Aside0.mk (hbox); have n2_ := Aside0.mk ((by rw [hg]; exact (below_size bl_) : w.heap.size ≤ gb514)); have n3_ := Aside0.mk ((by rw [hg]; exact (below_size bl_) : w.heap.size ≤ gb514)); clear HB; have HB := n0_; have BK514 := n1_; have GW514 := n2_; have GE514 := n3_; clear n0_ n1_ n2_ n3_; clear hb hbox hg; have hcz17_0 : w16.cell? ⟨gb514, 0, none⟩ = some (.int .i64 0) := (blk_cell BK514.out 0).trans rfl; have hcz17_1 : w16.cell? ⟨gb514, 1, none⟩ = some (.int .i64 0) := (blk_cell BK514.out 1).trans rfl; have hfz17_0 := blk_frozen BK514.out 0; have hfz17_1 := blk_frozen BK514.out 1) | (go_at_call 101; (with_reducible refine (spec_l3Time.calls ((rd_T115 l0 x7_1).f0) true _ A5.out).mono ?_); rintro e w' ⟨rfl, ⟨nd, rfl⟩⟩; (try exact dd_))); try go_wp2_with (first | ((with_reducible refine gate_dst (N := 4) rfl ?_); refine box_event ?hg (N := 4) ?hd (cs := #[.int .i64 0, .int .i64 0]) (t := 115) ?hr ?_; (case hd => rfl); (case hg => rfl); (case hr => first | (go_simp; done) | (go_simp; rfl)); intro gb514 hg w16 hbox hb; have n0_ := Aside0.mk (below_step bl_ hb); have n1_ := Aside0.mk (hbox); have n2_ := Aside0.mk ((by rw [hg]; exact (below_size bl_) : w.heap.size ≤ gb514)); have n3_ := Aside0.mk ((by rw [hg]; exact (below_size bl_) : w.heap.size ≤ gb514)); clear HB; have HB := n0_; have BK514 := n1_; have GW514 := n2_; have GE514 := n3_; clear n0_ n1_ n2_ n3_; clear hb hbox hg; have hcz17_0 : w16.cell? ⟨gb514, 0, none⟩ = some (.int .i64 0) := (blk_cell BK514.out 0).trans rfl; have hcz17_1 : w16.cell? ⟨gb514, 1, none⟩ = some (.int .i64 0) := (blk_cell BK514.out 1).trans rfl; have hfz17_0 := blk_frozen BK514.out 0; have hfz17_1 := blk_frozen BK514.out 1) | (go_at_call 101; (with_reducible refine (spec_l3Time.calls ((rd_T115 l0 x7_1).f0) true _ A5.out).mono ?_); rintro e w' ⟨rfl, ⟨nd, rfl⟩⟩; (try exact dd_))))
        go_roundg k1
        case measure => have := HK1.out; omega
        case rel => exact ⟨(wrap64 (x7_1 + 1)), (by first | rfl | (simp; done) | (simp [*]; done)), H', ⟨by have := HK1.out; omega⟩, ⟨by repeat (first | (with_reducible first | exact HB.out | apply below_alloc | apply pw_below_drewN | apply below_drew1 | refine below_set ?_ GE514.out) | exact HB.out)⟩⟩
      ·replace c6 := Bool.eq_false_iff.mpr c6
       subst c6
       have H1 : (some false) = some r := by rw [if_neg (show ¬ (false = true) by decide)] at H; exact H
       clear H
       have H := H1
       clear H1
       obtain rfl := Option.some.inj H
       have p513 : 0 ≤ (x7_1 : Int) := od_
       have q513 : x7_1 < (l0.length : Int) := od_
       obtain ⟨ad513, e513, hx513_0, hx513_1⟩ := at_T115 HR0.out x7_1 p513 q513
       cases e513
       replace hx513_0 := kp_ HB hx513_0
       replace hx513_1 := kp_ HB hx513_1
       replace p513 := eq_true p513
       replace q513 := eq_true q513
       go_wp2_with (first | ((with_reducible refine gate_dst (N := 4) rfl ?_); refine box_event ?hg (N := 4) ?hd (cs := #[.int .i64 0, .int .i64 0]) (t := 115) ?hr ?_; (case hd => rfl); (case hg => rfl); (case hr => first | (go_simp; done) | (go_simp; rfl)); intro gb514 hg w18 hbox hb; have n0_ := Aside0.mk (below_step bl_ hb); have n1_ := Aside0.mk (hbox); have n2_ := Aside0.mk ((by rw [hg]; exact (below_size bl_) : w.heap.size ≤ gb514)); have n3_ := Aside0.mk ((by rw [hg]; exact (below_size bl_) : w.heap.size ≤ gb514)); clear HB; have HB := n0_; have BK514 := n1_; have GW514 := n2_; have GE514 := n3_; clear n0_ n1_ n2_ n3_; clear hb hbox hg; have hcz19_0 : w18.cell? ⟨gb514, 0, none⟩ = some (.int .i64 0) := (blk_cell BK514.out 0).trans rfl; have hcz19_1 : w18.cell? ⟨gb514, 1, none⟩ = some (.int .i64 0) := (blk_cell BK514.out 1).trans rfl; have hfz19_0 := blk_frozen BK514.out 0; have hfz19_1 := blk_frozen BK514.out 1) | (go_at_call 101; (with_reducible refine (spec_l3Time.calls ((rd_T115 l0 x7_1).f0) false _ A5.out).mono ?_); rintro e w' ⟨rfl, ⟨nd, rfl⟩⟩; (try exact dd_)))
       repeat (go_quiet (first | ((with_reducible refine gate_dst (N := 4) rfl ?_); refine box_event ?hg (N := 4) ?hd (cs := #[.int .i64 0, .int .i64 0]) (t := 115) ?hr ?_; (case hd => rfl); (case hg => rfl); (case hr => first | (go_simp; done) | (go_simp; rfl)); intro gb514 hg w18 hbox hb; have n0_ := Aside0.mk (below_step bl_ hb); have n1_ := Aside0.mk (hbox); have n2_ := Aside0.mk ((by rw [hg]; exact (below_size bl_) : w.heap.size ≤ gb514)); have n3_ := Aside0.mk ((by rw [hg]; exact (below_size bl_) : w.heap.size ≤ gb514)); clear HB; have HB := n0_; have BK514 := n1_; have GW514 := n2_; have GE514 := n3_; clear n0_ n1_ n2_ n3_; clear hb hbox hg; have hcz19_0 : w18.cell? ⟨gb514, 0, none⟩ = some (.int .i64 0) := (blk_cell BK514.out 0).trans rfl; have hcz19_1 : w18.cell? ⟨gb514, 1, none⟩ = some (.int .i64 0) := (blk_cell BK514.out 1).trans rfl; have hfz19_0 := blk_frozen BK514.out 0; have hfz19_1 := blk_frozen BK514.out 1) | (go_at_call 101; (with_reducible refine (spec_l3Time.calls ((rd_T115 l0 x7_1).f0) false _ A5.out).mono ?_); rintro e w' ⟨rfl, ⟨nd, rfl⟩⟩; (try exact dd_))); try go_wp2_with (first | ((with_reducible refine gate_dst (N := 4) rfl ?_); refine box_event ?hg (N := 4) ?hd (cs := #[.int .i64 0, .int .i64 0]) (t := 115) ?hr ?_; (case hd => rfl); (case hg => rfl); (case hr => first | (go_simp; done) | (go_simp; rfl)); intro gb514 hg w18 hbox hb; have n0_ := Aside0.mk (below_step bl_ hb); have n1_ := Aside0.mk (hbox); have n2_ := Aside0.mk ((by rw [hg]; exact (below_size bl_) : w.heap.size ≤ gb514)); have n3_ := Aside0.mk ((by rw [hg]; exact (below_size bl_) : w.heap.size ≤ gb514)); clear HB; have HB := n0_; have BK514 := n1_; have GW514 := n2_; have GE514 := n3_; clear n0_ n1_ n2_ n3_; clear hb hbox hg; have hcz19_0 : w18.cell? ⟨gb514, 0, none⟩ = some (.int .i64 0) := (blk_cell BK514.out 0).trans rfl; have hcz19_1 : w18.cell? ⟨gb514, 1, none⟩ = some (.int .i64 0) := (blk_cell BK514.out 1).trans rfl; have hfz19_0 := blk_frozen BK514.out 0; have hfz19_1 := blk_frozen BK514.out 1) | (go_at_call 101; (with_reducible refine (spec_l3Time.calls ((rd_T115 l0 x7_1).f0) false _ A5.out).mono ?_); rintro e w' ⟨rfl, ⟨nd, rfl⟩⟩; (try exact dd_))))
       go_ret
       exact ⟨by first | rfl | (simp [errW_none, errW_some] <;> rfl) | (simp [*, errW_none, errW_some] <;> rfl) | (simp [*, Go.Proofs.Ythgeohdpjedhnaa.Gt.nil_bne]; done), by repeat (first | (with_reducible first | exact HB.out | apply below_alloc | apply pw_below_drewN | apply below_drew1 | refine below_set ?_ GE514.out) | exact HB.out)⟩
     ·rw [if_neg c4] at H
      exact absurd H (by simp)
    ·rw [if_neg c3] at H
     exact absurd H (by simp)
   ·rw [if_neg c2] at H
    have c2b0 : decide (x7_1 < (l0.length : Int)) = false := decide_eq_false c2
    clear c2
    obtain rfl := Option.some.inj H
    go_wp2
    repeat (go_quiet (fail); try go_wp2)
    go_ret
    exact ⟨by first | rfl | (simp [errW_none, errW_some] <;> rfl) | (simp [*, errW_none, errW_some] <;> rfl) | (simp [*, Go.Proofs.Ythgeohdpjedhnaa.Gt.nil_bne]; done), bl_⟩

/-! ### spec_l2Cmp: function 93 -/
mutual
def spec_l2Cmp.l0 : Nat → List (S86) → List (S86) → Int → Option (Int)
 | 0, _, _, _ => none
 | k + 1, x0, x1, x5 => if x5 < (x0.length : Int) then (spec_l2Cmp.j1 k x0 x1 x5 (decide (x5 < (x1.length : Int)))) else (spec_l2Cmp.j1 k x0 x1 x5 false)
def spec_l2Cmp.j1 : Nat → List (S86) → List (S86) → Int → Bool → Option (Int)
 | 0, _, _, _, _ => none
 | k + 1, x0, x1, x5, x17 => if x17 = true then (if 0 ≤ x5 then (if x5 < (x0.length : Int) then (if x5 < (x1.length : Int) then ((spec_l2CmpText.f k ((rd_T86 x0 x5).f0) ((rd_T86 x1 x5).f0)).bind fun t520 => (if t520 = 0 then ((spec_l2CmpText.f k ((rd_T86 x0 x5).f1) ((rd_T86 x1 x5).f1)).bind fun t523 => (if t523 = 0 then (spec_l2Cmp.l0 k x0 x1 (wrap64 (x5 + 1))) else (some t523))) else (some t520))) else (none)) else (none)) else (none)) else ((spec_l2CmpNum.f (x0.length : Int) (x1.length : Int)).bind fun t517 => (some t517))
end
def spec_l2Cmp.f (k : Nat) (l0 : List (S86)) (l1 : List (S86)) : Option (Int) := spec_l2Cmp.l0 k l0 l1 0
theorem spec_l2Cmp.mono_l : ∀ k, (∀ y0 y1 y2, LeO (spec_l2Cmp.l0 k y0 y1 y2) (spec_l2Cmp.l0 (k + 1) y0 y1 y2)) ∧ (∀ y0 y1 y2 y3, LeO (spec_l2Cmp.j1 k y0 y1 y2 y3) (spec_l2Cmp.j1 (k + 1) y0 y1 y2 y3))
 | 0 => ⟨fun _ _ _ r h => by simp [spec_l2Cmp.l0] at h, fun _ _ _ _ r h => by simp [spec_l2Cmp.j1] at h⟩
 | k + 1 => by
  obtain ⟨ih0, ih1⟩ := spec_l2Cmp.mono_l k
  refine ⟨?_, ?_⟩
  ·intro y0 y1 y2
   unfold spec_l2Cmp.l0
   repeat' first
   | (with_reducible exact ih0 _ _ _)
   | (with_reducible exact ih1 _ _ _ _)
   | (with_reducible exact spec_l2CmpText.mono _ _ _)
   | (with_reducible exact LeO.refl _)
   | (with_reducible exact LeO.none _)
   | (with_reducible refine LeO.ite ?_ ?_)
   | (with_reducible refine LeO.bind ?_ (fun _ => ?_))
   | exact ih0 _ _ _
   | exact ih1 _ _ _ _
   | exact spec_l2CmpText.mono _ _ _
   | exact LeO.none _
   | refine LeO.ite ?_ ?_
   | refine LeO.bind ?_ (fun _ => ?_)
  ·intro y0 y1 y2 y3
   unfold spec_l2Cmp.j1
   repeat' first
   | (with_reducible exact ih0 _ _ _)
   | (with_reducible exact ih1 _ _ _ _)
   | (with_reducible exact spec_l2CmpText.mono _ _ _)
   | (with_reducible exact LeO.refl _)
   | (with_reducible exact LeO.none _)
   | (with_reducible refine LeO.ite ?_ ?_)
   | (with_reducible refine LeO.bind ?_ (fun _ => ?_))
   | exact ih0 _ _ _
   | exact ih1 _ _ _ _
   | exact spec_l2CmpText.mono _ _ _
   | exact LeO.none _
   | refine LeO.ite ?_ ?_
   | refine LeO.bind ?_ (fun _ => ?_)
theorem spec_l2Cmp.mono : ∀ a0 a1 k, LeO (spec_l2Cmp.f k a0 a1) (spec_l2Cmp.f (k + 1) a0 a1) := by
 intro a0 a1 k
 obtain ⟨ih0, ih1⟩ := spec_l2Cmp.mono_l k
 unfold spec_l2Cmp.f
 repeat' first
   | (with_reducible exact ih0 _ _ _)
   | (with_reducible exact ih1 _ _ _ _)
   | (with_reducible exact spec_l2CmpText.mono _ _ _)
   | (with_reducible exact LeO.refl _)
   | (with_reducible exact LeO.none _)
   | (with_reducible refine LeO.ite ?_ ?_)
   | (with_reducible refine LeO.bind ?_ (fun _ => ?_))
   | exact ih0 _ _ _
   | exact ih1 _ _ _ _
   | exact spec_l2CmpText.mono _ _ _
   | exact LeO.none _
   | refine LeO.ite ?_ ?_
   | refine LeO.bind ?_ (fun _ => ?_)
set_option maxHeartbeats 8000000 in
set_option maxRecDepth 100000 in
theorem spec_l2Cmp.calls (k : Nat) (A0 : Option Addr) (c0 : Nat) (l0 : List (S86)) (A1 : Option Addr) (c1 : Nat) (l1 : List (S86)) (r : Int) (w : World) (hr0 : Kd.C k86 w A0 l0.length l0) (hc0 : l0.length ≤ c0) (hr1 : Kd.C k86 w A1 l1.length l1) (hc1 : l1.length ≤ c1) (h : spec_l2Cmp.f k l0 l1 = some r) :
  Calls Try.prog 93 #[.slice A0 l0.length c0, .slice A1 l1.length c1] w fun e w' => e = .returned (.int .i64 r) ∧ Drawn0 w w' := by
 have HR0 := Aside0.mk hr0
 have HC0 := Aside0.mk hc0
 clear hr0 hc0
 have HR1 := Aside0.mk hr1
 have HC1 := Aside0.mk hc1
 clear hr1 hc1
 have H : (spec_l2Cmp.l0 k l0 l1 0) = some r := h
 clear h
 have H' := Aside0.mk H
 clear H
 go_enter Try.func93, Try.ntmps93
 go_wp2
 repeat (go_quiet (fail); try go_wp2)
 go_loopg [5] k (fun kq v5 w' => ∃ (x5_1 : Int), v5 = .int .i64 x5_1 ∧ Aside0 (spec_l2Cmp.l0 kq l0 l1 x5_1 = some r) ∧ Aside0 (kq ≤ k) ∧ Drawn0 w w')
 case atStart => exact ⟨(0), (by first | rfl | (simp; done) | (simp [*]; done)), H', ⟨Nat.le_refl _⟩, by repeat (first | exact Drawn0.refl _ | apply Drawn0.step)⟩
 case round =>
  clear H'
  try clear c1
  try clear p2
  obtain ⟨x5_1, rfl, HA, HK1, ⟨m1, rfl⟩⟩ := hrel
  cases gk with
  | zero => exact absurd HA.out (by simp [spec_l2Cmp.l0])
  | succ k1 =>
   have H := HA.out
   clear HA
   simp only [spec_l2Cmp.l0] at H
   have HC3 := Aside0.mk H
   clear H
   go_upto_region 2 with (fail)
   repeat (go_quiet (fail); go_upto_region 2 with (fail))
   go_cut [17] (fun v17 wc => ∃ (kq : Nat) (x17_2 : Bool), v17 = .bool x17_2 ∧ Aside0 (spec_l2Cmp.j1 kq l0 l1 x5_1 x17_2 = some r) ∧ Aside0 (kq ≤ k1) ∧ Drawn0 w wc)
   case first =>
    have H := HC3.out
    clear HC3
    by_cases c4 : x5_1 < (l0.length : Int)
    ·rw [if_pos c4] at H
     have c4b0 : decide (x5_1 < (l0.length : Int)) = true := decide_eq_true c4
     clear c4
     (first | rw [c4b0] | (simp only [i64_w, i32_w]; rw [c4b0]) | skip)
     have H' := Aside0.mk H
     clear H
     go_wp2
     repeat (go_quiet (fail); try go_wp2)
     go_meet
     case rel => exact ⟨_, (decide (x5_1 < (l1.length : Int))), (by first | rfl | (simp; done) | (simp [*]; done)), H', ⟨by have := HK1.out; first | omega | exact Nat.le_refl _⟩, by repeat (first | exact Drawn0.refl _ | apply Drawn0.step)⟩
    ·rw [if_neg c4] at H
     have c4b0 : decide (x5_1 < (l0.length : Int)) = false := decide_eq_false c4
     clear c4
     (first | rw [c4b0] | (simp only [i64_w, i32_w]; rw [c4b0]) | skip)
     have H' := Aside0.mk H
     clear H
     go_wp2
     repeat (go_quiet (fail); try go_wp2)
     go_meet
     case rel => exact ⟨_, (false), (by first | rfl | (simp; done) | (simp [*]; done)), H', ⟨by have := HK1.out; first | omega | exact Nat.le_refl _⟩, by repeat (first | exact Drawn0.refl _ | apply Drawn0.step)⟩
   case rest =>
    clear HC3
    try clear c1
    try clear p2
    try clear c4
    try clear c4b0
    try clear p2
    obtain ⟨kq, x17_2, rfl, HA, HJ2, ⟨mc2, rfl⟩⟩ := hcut
    cases kq with
    | zero => exact absurd HA.out (by simp [spec_l2Cmp.j1])
    | succ kj2 =>
     have H := HA.out
     clear HA
     simp only [spec_l2Cmp.j1] at H
     by_cases c5 : x17_2 = true
     ·subst c5
      have H1 : (if 0 ≤ x5_1 then (if x5_1 < (l0.length : Int) then (if x5_1 < (l1.length : Int) then ((spec_l2CmpText.f kj2 ((rd_T86 l0 x5_1).f0) ((rd_T86 l1 x5_1).f0)).bind fun t520 => (if t520 = 0 then ((spec_l2CmpText.f kj2 ((rd_T86 l0 x5_1).f1) ((rd_T86 l1 x5_1).f1)).bind fun t523 => (if t523 = 0 then (spec_l2Cmp.l0 kj2 l0 l1 (wrap64 (x5_1 + 1))) else (some t523))) else (some t520))) else (none)) else (none)) else (none)) = some r := by rw [if_pos rfl] at H; exact H
      clear H
      have H := H1
      clear H1
      by_cases c6 : 0 ≤ x5_1
      ·rw [if_pos c6] at H
       have c6b0 : decide (0 ≤ x5_1) = true := decide_eq_true c6
       clear c6
       by_cases c7 : x5_1 < (l0.length : Int)
       ·rw [if_pos c7] at H
        have c7b0 : decide (x5_1 < (l0.length : Int)) = true := decide_eq_true c7
        clear c7
        by_cases c8 : x5_1 < (l1.length : Int)
        ·rw [if_pos c8] at H
         have c8b0 : decide (x5_1 < (l1.length : Int)) = true := decide_eq_true c8
         clear c8
         replace H := Option.bind_eq_some_iff.mp H
         obtain ⟨t520, A90, H⟩ := H
         replace H : (if t520 = 0 then ((spec_l2CmpText.f kj2 ((rd_T86 l0 x5_1).f1) ((rd_T86 l1 x5_1).f1)).bind fun t523 => (if t523 = 0 then (spec_l2Cmp.l0 kj2 l0 l1 (wrap64 (x5_1 + 1))) else (some t523))) else (some t520)) = some r := H
         have A9 := Aside0.mk A90
         clear A90
         by_cases c10 : t520 = 0
         ·rw [if_pos c10] at H
          have c10b0 : (t520 == 0) = true := beq_iff_eq.mpr c10
          have c10b1 : (t520 != 0) = false := bne_eq_false_iff_eq.mpr c10
          clear c10
          replace H := Option.bind_eq_some_iff.mp H
          obtain ⟨t523, A110, H⟩ := H
          replace H : (if t523 = 0 then (spec_l2Cmp.l0 kj2 l0 l1 (wrap64 (x5_1 + 1))) else (some t523)) = some r := H
          have A11 := Aside0.mk A110
          clear A110
          by_cases c12 : t523 = 0
          ·rw [if_pos c12] at H
           have c12b0 : (t523 == 0) = true := beq_iff_eq.mpr c12
           have c12b1 : (t523 != 0) = false := bne_eq_false_iff_eq.mpr c12
           clear c12
           have H' := Aside0.mk H
           clear H
           have p518 : 0 ≤ (x5_1 : Int) := od_
           have q518 : x5_1 < (l0.length : Int) := od_
           obtain ⟨ad518, e518, hx518_0, hx518_1⟩ := at_T86 HR0.out x5_1 p518 q518
           cases e518
           replace p518 := eq_true p518
           replace q518 := eq_true q518
           have p519 : 0 ≤ (x5_1 : Int) := od_
           have q519 : x5_1 < (l1.length : Int) := od_
           obtain ⟨ad519, e519, hx519_0, hx519_1⟩ := at_T86 HR1.out x5_1 p519 q519
           cases e519
           replace p519 := eq_true p519
           replace q519 := eq_true q519
           go_wp2_with (first | (go_at_call 115; (with_reducible refine (spec_l2CmpText.calls kj2 ((rd_T86 l0 x5_1).f0) ((rd_T86 l1 x5_1).f0) t520 _ A9.out).mono ?_); rintro e w' ⟨rfl, ⟨nd, rfl⟩⟩; (try exact dd_); have p521 : 0 ≤ (x5_1 : Int) := od_; have q521 : x5_1 < (l0.length : Int) := od_; obtain ⟨ad521, e521, hx521_0, hx521_1⟩ := at_T86 HR0.out x5_1 p521 q521; obtain rfl : ad518 = ad521 := (by injection e521); replace p521 := eq_true p521; replace q521 := eq_true q521; have p522 : 0 ≤ (x5_1 : Int) := od_; have q522 : x5_1 < (l1.length : Int) := od_; obtain ⟨ad522, e522, hx522_0, hx522_1⟩ := at_T86 HR1.out x5_1 p522 q522; obtain rfl : ad519 = ad522 := (by injection e522); replace p522 := eq_true p522; replace q522 := eq_true q522) | (go_at_call 115; (with_reducible refine (spec_l2CmpText.calls kj2 ((rd_T86 l0 x5_1).f1) ((rd_T86 l1 x5_1).f1) t523 _ A11.out).mono ?_); rintro e w' ⟨rfl, ⟨nd, rfl⟩⟩; (try exact dd_)))
           repeat (go_quiet (first | (go_at_call 115; (with_reducible refine (spec_l2CmpText.calls kj2 ((rd_T86 l0 x5_1).f0) ((rd_T86 l1 x5_1).f0) t520 _ A9.out).mono ?_); rintro e w' ⟨rfl, ⟨nd, rfl⟩⟩; (try exact dd_); have p521 : 0 ≤ (x5_1 : Int) := od_; have q521 : x5_1 < (l0.length : Int) := od_; obtain ⟨ad521, e521, hx521_0, hx521_1⟩ := at_T86 HR0.out x5_1 p521 q521; obtain rfl : ad518 = ad521 := (by injection e521); replace p521 := eq_true p521; replace q521 := eq_true q521; have p522 : 0 ≤ (x5_1 : Int) := od_; have q522 : x5_1 < (l1.length : Int) := od_; obtain ⟨ad522, e522, hx522_0, hx522_1⟩ := at_T86 HR1.out x5_1 p522 q522; obtain rfl : ad519 = ad522 := (by injection e522); replace p522 := eq_true p522; replace q522 := eq_true q522) | (go_at_call 115; (with_reducible refine (spec_l2CmpText.calls kj2 ((rd_T86 l0 x5_1).f1) ((rd_T86 l1 x5_1).f1) t523 _ A11.out).mono ?_); rintro e w' ⟨rfl, ⟨nd, rfl⟩⟩; (try exact dd_))); try go_wp2_with (first | (go_at_call 115; (with_reducible refine (spec_l2CmpText.calls kj2 ((rd_T86 l0 x5_1).f0) ((rd_T86 l1 x5_1).f0) t520 _ A9.out).mono ?_); rintro e w' ⟨rfl, ⟨nd, rfl⟩⟩; (try exact dd_); have p521 : 0 ≤ (x5_1 : Int) := od_; have q521 : x5_1 < (l0.length : Int) := od_; obtain ⟨ad521, e521, hx521_0, hx521_1⟩ := at_T86 HR0.out x5_1 p521 q521; obtain rfl : ad518 = ad521 := (by injection e521); replace p521 := eq_true p521; replace q521 := eq_true q521; have p522 : 0 ≤ (x5_1 : Int) := od_; have q522 : x5_1 < (l1.length : Int) := od_; obtain ⟨ad522, e522, hx522_0, hx522_1⟩ := at_T86 HR1.out x5_1 p522 q522; obtain rfl : ad519 = ad522 := (by injection e522); replace p522 := eq_true p522; replace q522 := eq_true q522) | (go_at_call 115; (with_reducible refine (spec_l2CmpText.calls kj2 ((rd_T86 l0 x5_1).f1) ((rd_T86 l1 x5_1).f1) t523 _ A11.out).mono ?_); rintro e w' ⟨rfl, ⟨nd, rfl⟩⟩; (try exact dd_))))
           go_roundg kj2
           case measure => have := HK1.out; have := HJ2.out; omega
           case rel => exact ⟨(wrap64 (x5_1 + 1)), (by first | rfl | (simp; done) | (simp [*]; done)), H', ⟨by have := HK1.out; have := HJ2.out; omega⟩, by repeat (first | exact Drawn0.refl _ | apply Drawn0.step)⟩
          ·rw [if_neg c12] at H
           have c12b0 : (t523 == 0) = false := beq_eq_false_iff_ne.mpr c12
           have c12b1 : (t523 != 0) = true := bne_iff_ne.mpr c12
           obtain rfl := Option.some.inj H
           have p518 : 0 ≤ (x5_1 : Int) := od_
           have q518 : x5_1 < (l0.length : Int) := od_
           obtain ⟨ad518, e518, hx518_0, hx518_1⟩ := at_T86 HR0.out x5_1 p518 q518
           cases e518
           replace p518 := eq_true p518
           replace q518 := eq_true q518
           have p519 : 0 ≤ (x5_1 : Int) := od_
           have q519 : x5_1 < (l1.length : Int) := od_
           obtain ⟨ad519, e519, hx519_0, hx519_1⟩ := at_T86 HR1.out x5_1 p519 q519
           cases e519
           replace p519 := eq_true p519
           replace q519 := eq_true q519
           go_wp2_with (first | (go_at_call 115; (with_reducible refine (spec_l2CmpText.calls kj2 ((rd_T86 l0 x5_1).f0) ((rd_T86 l1 x5_1).f0) t520 _ A9.out).mono ?_); rintro e w' ⟨rfl, ⟨nd, rfl⟩⟩; (try exact dd_); have p521 : 0 ≤ (x5_1 : Int) := od_; have q521 : x5_1 < (l0.length : Int) := od_; obtain ⟨ad521, e521, hx521_0, hx521_1⟩ := at_T86 HR0.out x5_1 p521 q521; obtain rfl : ad518 = ad521 := (by injection e521); replace p521 := eq_true p521; replace q521 := eq_true q521; have p522 : 0 ≤ (x5_1 : Int) := od_; have q522 : x5_1 < (l1.length : Int) := od_; obtain ⟨ad522, e522, hx522_0, hx522_1⟩ := at_T86 HR1.out x5_1 p522 q522; obtain rfl : ad519 = ad522 := (by injection e522); replace p522 := eq_true p522; replace q522 := eq_true q522) | (go_at_call 115; (with_reducible refine (spec_l2CmpText.calls kj2 ((rd_T86 l0 x5_1).f1) ((rd_T86 l1 x5_1).f1) t523 _ A11.out).mono ?_); rintro e w' ⟨rfl, ⟨nd, rfl⟩⟩; (try exact dd_)))
           repeat (go_quiet (first | (go_at_call 115; (with_reducible refine (spec_l2CmpText.calls kj2 ((rd_T86 l0 x5_1).f0) ((rd_T86 l1 x5_1).f0) t520 _ A9.out).mono ?_); rintro e w' ⟨rfl, ⟨nd, rfl⟩⟩; (try exact dd_); have p521 : 0 ≤ (x5_1 : Int) := od_; have q521 : x5_1 < (l0.length : Int) := od_; obtain ⟨ad521, e521, hx521_0, hx521_1⟩ := at_T86 HR0.out x5_1 p521 q521; obtain rfl : ad518 = ad521 := (by injection e521); replace p521 := eq_true p521; replace q521 := eq_true q521; have p522 : 0 ≤ (x5_1 : Int) := od_; have q522 : x5_1 < (l1.length : Int) := od_; obtain ⟨ad522, e522, hx522_0, hx522_1⟩ := at_T86 HR1.out x5_1 p522 q522; obtain rfl : ad519 = ad522 := (by injection e522); replace p522 := eq_true p522; replace q522 := eq_true q522) | (go_at_call 115; (with_reducible refine (spec_l2CmpText.calls kj2 ((rd_T86 l0 x5_1).f1) ((rd_T86 l1 x5_1).f1) t523 _ A11.out).mono ?_); rintro e w' ⟨rfl, ⟨nd, rfl⟩⟩; (try exact dd_))); try go_wp2_with (first | (go_at_call 115; (with_reducible refine (spec_l2CmpText.calls kj2 ((rd_T86 l0 x5_1).f0) ((rd_T86 l1 x5_1).f0) t520 _ A9.out).mono ?_); rintro e w' ⟨rfl, ⟨nd, rfl⟩⟩; (try exact dd_); have p521 : 0 ≤ (x5_1 : Int) := od_; have q521 : x5_1 < (l0.length : Int) := od_; obtain ⟨ad521, e521, hx521_0, hx521_1⟩ := at_T86 HR0.out x5_1 p521 q521; obtain rfl : ad518 = ad521 := (by injection e521); replace p521 := eq_true p521; replace q521 := eq_true q521; have p522 : 0 ≤ (x5_1 : Int) := od_; have q522 : x5_1 < (l1.length : Int) := od_; obtain ⟨ad522, e522, hx522_0, hx522_1⟩ := at_T86 HR1.out x5_1 p522 q522; obtain rfl : ad519 = ad522 := (by injection e522); replace p522 := eq_true p522; replace q522 := eq_true q522) | (go_at_call 115; (with_reducible refine (spec_l2CmpText.calls kj2 ((rd_T86 l0 x5_1).f1) ((rd_T86 l1 x5_1).f1) t523 _ A11.out).mono ?_); rintro e w' ⟨rfl, ⟨nd, rfl⟩⟩; (try exact dd_))))
           go_ret
           exact ⟨by first | rfl | (simp; done) | (simp [*]; done), by repeat (first | exact Drawn0.refl _ | apply Drawn0.step)⟩
         ·rw [if_neg c10] at H
          have c10b0 : (t520 == 0) = false := beq_eq_false_iff_ne.mpr c10
          have c10b1 : (t520 != 0) = true := bne_iff_ne.mpr c10
          obtain rfl := Option.some.inj H
          have p518 : 0 ≤ (x5_1 : Int) := od_
          have q518 : x5_1 < (l0.length : Int) := od_
          obtain ⟨ad518, e518, hx518_0, hx518_1⟩ := at_T86 HR0.out x5_1 p518 q518
          cases e518
          replace p518 := eq_true p518
          replace q518 := eq_true q518
          have p519 : 0 ≤ (x5_1 : Int) := od_
          have q519 : x5_1 < (l1.length : Int) := od_
          obtain ⟨ad519, e519, hx519_0, hx519_1⟩ := at_T86 HR1.out x5_1 p519 q519
          cases e519
          replace p519 := eq_true p519
          replace q519 := eq_true q519
          go_wp2_with (first | (go_at_call 115; (with_reducible refine (spec_l2CmpText.calls kj2 ((rd_T86 l0 x5_1).f0) ((rd_T86 l1 x5_1).f0) t520 _ A9.out).mono ?_); rintro e w' ⟨rfl, ⟨nd, rfl⟩⟩; (try exact dd_)))
          repeat (go_quiet (first | (go_at_call 115; (with_reducible refine (spec_l2CmpText.calls kj2 ((rd_T86 l0 x5_1).f0) ((rd_T86 l1 x5_1).f0) t520 _ A9.out).mono ?_); rintro e w' ⟨rfl, ⟨nd, rfl⟩⟩; (try exact dd_))); try go_wp2_with (first | (go_at_call 115; (with_reducible refine (spec_l2CmpText.calls kj2 ((rd_T86 l0 x5_1).f0) ((rd_T86 l1 x5_1).f0) t520 _ A9.out).mono ?_); rintro e w' ⟨rfl, ⟨nd, rfl⟩⟩; (try exact dd_))))
          go_ret
          exact ⟨by first | rfl | (simp; done) | (simp [*]; done), by repeat (first | exact Drawn0.refl _ | apply Drawn0.step)⟩
        ·rw [if_neg c8] at H
         exact absurd H (by simp)
       ·rw [if_neg c7] at H
        exact absurd H (by simp)
      ·rw [if_neg c6] at H
       exact absurd H (by simp)
     ·replace c5 := Bool.eq_false_iff.mpr c5
      subst c5
      have H1 : ((spec_l2CmpNum.f (l0.length : Int) (l1.length : Int)).bind fun t517 => (some t517)) = some r := by rw [if_neg (show ¬ (false = true) by decide)] at H; exact H
      clear H
      have H := H1
      clear H1
      replace H := Option.bind_eq_some_iff.mp H
      obtain ⟨t517, A130, H⟩ := H
      replace H : (some t517) = some r := H
      have A13 := Aside0.mk A130
      clear A130
      obtain rfl := Option.some.inj H
      go_wp2_with (first | (go_at_call 133; (with_reducible refine (spec_l2CmpNum.calls (l0.length : Int) (l1.length : Int) t517 _ A13.out).mono ?_); rintro e w' ⟨rfl, ⟨nd, rfl⟩⟩; (try exact dd_)))
      repeat (go_quiet (first | (go_at_call 133; (with_reducible refine (spec_l2CmpNum.calls (l0.length : Int) (l1.length : Int) t517 _ A13.out).mono ?_); rintro e w' ⟨rfl, ⟨nd, rfl⟩⟩; (try exact dd_))); try go_wp2_with (first | (go_at_call 133; (with_reducible refine (spec_l2CmpNum.calls (l0.length : Int) (l1.length : Int) t517 _ A13.out).mono ?_); rintro e w' ⟨rfl, ⟨nd, rfl⟩⟩; (try exact dd_))))
      go_ret
      exact ⟨by first | rfl | (simp; done) | (simp [*]; done), by repeat (first | exact Drawn0.refl _ | apply Drawn0.step)⟩

end Go.Proofs.Ythgeohdpjedhnaa.Pr
