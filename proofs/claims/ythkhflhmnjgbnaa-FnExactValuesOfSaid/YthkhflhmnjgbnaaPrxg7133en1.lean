/- Functions of the given program as plain Lean functions, and that the machine's calls come to them; written by a program of this session; no condition but those that each theorem states. -/
import Derived.Test.YthkhflhmnjgbnaaPrx0
namespace Go.Proofs.Ythkhflhmnjgbnaa.Pr
open Go.RowKit Go.Proofs.YthkhflhmnjgbnaaW.PrintWords Go.Proofs.YthkhflhmnjgbnaaW.PrintLast Go.Proofs.YthkhflhmnjgbnaaW.PrintMore
attribute [local go_sem] max2_int min2_int max_two min_two max_three min_three max_four min_four   -- for this text's walks alone
set_option linter.unusedVariables false
set_option linter.unusedSimpArgs false

/-! ### laws_szLabel: function 60 -/
def laws_szLabel.f (a0_0 : ByteArray) (a0_1 : ByteArray) (a1 : Int) : Option (Int) := if (wrap64 (a1 - (a0_0.size : Int))) < 0 then (some (-1)) else (if (wrap64 ((wrap64 (a1 - (a0_0.size : Int))) - (a0_1.size : Int))) < 0 then (some (-1)) else (some (wrap64 ((wrap64 (a1 - (a0_0.size : Int))) - (a0_1.size : Int)))))
set_option maxHeartbeats 8000000 in
set_option maxRecDepth 100000 in
theorem laws_szLabel.calls (a0_0 : ByteArray) (a0_1 : ByteArray) (a1 : Int) (r : Int) (w : World) (h : laws_szLabel.f a0_0 a0_1 a1 = some r) :
  Calls Try.prog 60 #[.agg #[.string a0_0, .string a0_1], .int .i64 a1] w fun e w' => e = .returned (.int .i64 r) ∧ Below w.heap.size w w' := by
 have hu80 := Try.underlying80; have HB := am_ (Below.refl w.heap.size w); have H := h; clear h; unfold laws_szLabel.f at H
 by_cases c3 : (wrap64 (a1 - (a0_0.size : Int))) < 0
 ·rw [if_pos c3] at H; have c3b0 := decide_eq_true c3; clear c3; obtain rfl := si_ H; go_enter Try.func60, Try.ntmps60; go_wp2_with (first | ((with_reducible refine gate_dst (N := 2) rfl ?_); refine bx_ 2 #[.string a0_0, .string a0_1] 80 ?_; intro gb1001 hg w4 hbox hb; have BK1001 := am_ (hbox); have GW1001 := am_ (gs_ hg : w.heap.size ≤ gb1001); replace HB := am_ (below_step bl_ hb); have GE1001 := GW1001; clear hb hbox hg; have hz5 := bk2_ BK1001)); go_ret; exact ⟨rf_, bg_⟩
 ·rw [if_neg c3] at H; have c3b0 := decide_eq_false c3; clear c3
  by_cases c6 : (wrap64 ((wrap64 (a1 - (a0_0.size : Int))) - (a0_1.size : Int))) < 0
  ·rw [if_pos c6] at H; have c6b0 := decide_eq_true c6; clear c6; obtain rfl := si_ H; go_enter Try.func60, Try.ntmps60; go_wp2_with (first | ((with_reducible refine gate_dst (N := 2) rfl ?_); refine bx_ 2 #[.string a0_0, .string a0_1] 80 ?_; intro gb1001 hg w7 hbox hb; have BK1001 := am_ (hbox); have GW1001 := am_ (gs_ hg : w.heap.size ≤ gb1001); replace HB := am_ (below_step bl_ hb); have GE1001 := GW1001; clear hb hbox hg; have hz8 := bk2_ BK1001)); go_ret; exact ⟨rf_, bg_⟩
  ·rw [if_neg c6] at H; have c6b0 := decide_eq_false c6; clear c6; obtain rfl := si_ H; go_enter Try.func60, Try.ntmps60; go_wp2_with (first | ((with_reducible refine gate_dst (N := 2) rfl ?_); refine bx_ 2 #[.string a0_0, .string a0_1] 80 ?_; intro gb1001 hg w9 hbox hb; have BK1001 := am_ (hbox); have GW1001 := am_ (gs_ hg : w.heap.size ≤ gb1001); replace HB := am_ (below_step bl_ hb); have GE1001 := GW1001; clear hb hbox hg; have hz10 := bk2_ BK1001)); go_ret; exact ⟨rf_, bg_⟩

/-! ### laws_szLabelS: function 34 -/
def laws_szLabelS.l0 : Nat → List (S80) → Int → Int → Option (Int)
 | 0, _, _, _ => none
 | k + 1, x0, x1, x5 => if x5 < (x0.length : Int) then (if 0 ≤ x5 then ((laws_szLabel.f ((rd_T80 x0 x5).f0) ((rd_T80 x0 x5).f1) x1).bind fun t1002 => (if t1002 < 0 then (some (-1)) else (laws_szLabelS.l0 k x0 t1002 (wrap64 (x5 + 1))))) else (none)) else (some x1)
def laws_szLabelS.f (k : Nat) (l0 : List (S80)) (a1 : Int) : Option (Int) := if (wrap64 (a1 - (l0.length : Int))) < 0 then (some (-1)) else (laws_szLabelS.l0 k l0 (wrap64 (a1 - (l0.length : Int))) 0)
theorem laws_szLabelS.mono_l : ∀ k, (∀ y0 y1 y2, LeO (laws_szLabelS.l0 k y0 y1 y2) (laws_szLabelS.l0 (k + 1) y0 y1 y2))
 | 0 => fun _ _ _ r h => by simp [laws_szLabelS.l0] at h
 | k + 1 => by
  have ih0 := laws_szLabelS.mono_l k
  ·intro y0 y1 y2
   unfold laws_szLabelS.l0
   repeat' with_reducible first | apply ih0 | apply LeO.refl | apply LeO.none | apply LeO.ite | refine LeO.bind ?_ (fun _ => ?_)
theorem laws_szLabelS.mono : ∀ a0 a1 k, LeO (laws_szLabelS.f k a0 a1) (laws_szLabelS.f (k + 1) a0 a1) := by
 intro a0 a1 k
 have ih0 := laws_szLabelS.mono_l k
 unfold laws_szLabelS.f
 repeat' with_reducible first | apply ih0 | apply LeO.refl | apply LeO.none | apply LeO.ite | refine LeO.bind ?_ (fun _ => ?_)
set_option maxHeartbeats 8000000 in
set_option maxRecDepth 100000 in
theorem laws_szLabelS.calls (k : Nat) (A0 : Option Addr) (c0 : Nat) (l0 : List (S80)) (a1 : Int) (r : Int) (w : World) (hr0 : Kd.C k80 w A0 l0.length l0) (hc0 : l0.length ≤ c0) (h : laws_szLabelS.f k l0 a1 = some r) :
  Calls Try.prog 34 #[.slice A0 l0.length c0, .int .i64 a1] w fun e w' => e = .returned (.int .i64 r) ∧ Below w.heap.size w w' := by
 have hu80 := Try.underlying80; have HR0 := am_ hr0; have HC0 := am_ hc0; clear hr0 hc0; have HB := am_ (Below.refl w.heap.size w); have H := h; clear h; unfold laws_szLabelS.f at H
 by_cases c3 : (wrap64 (a1 - (l0.length : Int))) < 0
 ·rw [if_pos c3] at H; have c3b0 := decide_eq_true c3; clear c3; obtain rfl := si_ H; go_enter Try.func34, Try.ntmps34; go_wp2; go_ret; exact ⟨rf_, bl_⟩
 ·rw [if_neg c3] at H; have c3b0 := decide_eq_false c3; clear c3; have H' := am_ H; clear H; go_enter Try.func34, Try.ntmps34; go_wp2
  go_loopg [1, 5] k (fun kq v1 v5 w' => ∃ (x1_1 : Int) (x5_1 : Int), v1 = .int .i64 x1_1 ∧ v5 = .int .i64 x5_1 ∧ Aside0 (laws_szLabelS.l0 kq l0 x1_1 x5_1 = some r) ∧ Aside0 (kq ≤ k) ∧ Aside0 (Below w.heap.size w w'))
  case atStart => exact ⟨(wrap64 (a1 - (l0.length : Int))), (0), rs_, rs_, H', ⟨Nat.le_refl _⟩, ⟨bl_⟩⟩
  case round =>
   clear H'; (try clear c3); (try clear c3b0); obtain ⟨x1_1, x5_1, rfl, rfl, HA, HK1, HB⟩ := hrel
   cases gk with
   | zero => exact absurd HA.out (by simp [laws_szLabelS.l0])
   | succ k1 =>
    have H := HA.out; clear HA; simp only [laws_szLabelS.l0] at H
    by_cases c4 : x5_1 < (l0.length : Int)
    ·rw [if_pos c4] at H; have c4b0 := decide_eq_true c4; clear c4; replace H := is_ H; obtain ⟨c5, H⟩ := H; have c5b0 := decide_eq_true c5; clear c5; replace H := bs_ H; obtain ⟨t1002, A6, H⟩ := H
     by_cases c7 : t1002 < 0
     ·rw [if_pos c7] at H; have c7b0 := decide_eq_true c7; clear c7; obtain rfl := si_ H; have p1001 : 0 ≤ (x5_1 : Int) := od_; have q1001 : x5_1 < (l0.length : Int) := od_; obtain ⟨ad1001, e1001, hx1001_0, hx1001_1⟩ := at_T80 HR0.out x5_1 p1001 q1001
      cases e1001
      replace hx1001_0 := kp_ HB hx1001_0; replace hx1001_1 := kp_ HB hx1001_1; replace p1001 := eq_true p1001; replace q1001 := eq_true q1001; go_wp2_with (first | ((with_reducible refine gate_callee (f := 60) rfl ?_); refine gl_ 23 Try.func60 #[.agg #[.string ((rd_T80 l0 x5_1).f0), .string ((rd_T80 l0 x5_1).f1)], .int .i64 x1_1] ?_; (with_reducible refine (laws_szLabel.calls ((rd_T80 l0 x5_1).f0) ((rd_T80 l0 x5_1).f1) x1_1 t1002 _ A6.out).mono ?_); rintro e w8 ⟨rfl, hb⟩; refine ⟨_, rfl, ?_⟩; replace HB := am_ (below_step bl_ hb); (try clear hb))); go_ret; exact ⟨rf_, bl_⟩
     ·rw [if_neg c7] at H; have c7b0 := decide_eq_false c7; clear c7; have H' := am_ H; clear H; have p1001 : 0 ≤ (x5_1 : Int) := od_; have q1001 : x5_1 < (l0.length : Int) := od_; obtain ⟨ad1001, e1001, hx1001_0, hx1001_1⟩ := at_T80 HR0.out x5_1 p1001 q1001
      cases e1001
      replace hx1001_0 := kp_ HB hx1001_0; replace hx1001_1 := kp_ HB hx1001_1; replace p1001 := eq_true p1001; replace q1001 := eq_true q1001; go_wp2_with (first | ((with_reducible refine gate_callee (f := 60) rfl ?_); refine gl_ 23 Try.func60 #[.agg #[.string ((rd_T80 l0 x5_1).f0), .string ((rd_T80 l0 x5_1).f1)], .int .i64 x1_1] ?_; (with_reducible refine (laws_szLabel.calls ((rd_T80 l0 x5_1).f0) ((rd_T80 l0 x5_1).f1) x1_1 t1002 _ A6.out).mono ?_); rintro e w9 ⟨rfl, hb⟩; refine ⟨_, rfl, ?_⟩; replace HB := am_ (below_step bl_ hb); (try clear hb))); go_roundg k1
      case measure => have := HK1.out; omega
      case rel => exact ⟨(t1002), (wrap64 (x5_1 + 1)), rs_, rs_, H', ⟨by have := HK1.out; omega⟩, ⟨bl_⟩⟩
    ·rw [if_neg c4] at H; have c4b0 := decide_eq_false c4; clear c4; obtain rfl := si_ H; go_wp2; go_ret; exact ⟨rf_, bl_⟩

/-! ### laws_szSampleS: function 35 -/
def laws_szSampleS.f (l0 : List (S85)) (a1 : Int) : Option (Int) := if (wrap64 (a1 - (l0.length : Int))) < 0 then (some (-1)) else (some (wrap64 (a1 - (l0.length : Int))))
set_option maxHeartbeats 8000000 in
set_option maxRecDepth 100000 in
theorem laws_szSampleS.calls (A0 : Option Addr) (c0 : Nat) (l0 : List (S85)) (a1 : Int) (r : Int) (w : World) (hr0 : Kd.C k85 w A0 l0.length l0) (hc0 : l0.length ≤ c0) (h : laws_szSampleS.f l0 a1 = some r) :
  Calls Try.prog 35 #[.slice A0 l0.length c0, .int .i64 a1] w fun e w' => e = .returned (.int .i64 r) ∧ Drawn0 w w' := by
 have HR0 := am_ hr0; have HC0 := am_ hc0; clear hr0 hc0; have H := h; clear h; unfold laws_szSampleS.f at H
 by_cases c3 : (wrap64 (a1 - (l0.length : Int))) < 0
 ·rw [if_pos c3] at H; have c3b0 := decide_eq_true c3; clear c3; obtain rfl := si_ H; go_enter Try.func35, Try.ntmps35; go_wp2; go_ret; exact ⟨by first | rfl | (simp; done) | (simp [*]; done), by repeat (first | exact Drawn0.refl _ | apply Drawn0.step)⟩
 ·rw [if_neg c3] at H; have c3b0 := decide_eq_false c3; clear c3; obtain rfl := si_ H; go_enter Try.func35, Try.ntmps35; go_wp2; go_ret; exact ⟨by first | rfl | (simp; done) | (simp [*]; done), by repeat (first | exact Drawn0.refl _ | apply Drawn0.step)⟩

/-! ### laws_szSeries: function 17 -/
def laws_szSeries.f (k : Nat) (l0_0 : List (S80)) (l0_1 : List (S85)) (a1 : Int) : Option (Int) := (laws_szLabelS.f k l0_0 a1).bind fun t1002 => (if t1002 < 0 then (some (-1)) else ((laws_szSampleS.f l0_1 t1002).bind fun t1003 => (if t1003 < 0 then (some (-1)) else (some t1003))))
theorem laws_szSeries.mono : ∀ a0 a1 a2 k, LeO (laws_szSeries.f k a0 a1 a2) (laws_szSeries.f (k + 1) a0 a1 a2) := by
 intro a0 a1 a2 k
 unfold laws_szSeries.f
 repeat' with_reducible first | apply laws_szLabelS.mono | apply LeO.refl | apply LeO.none | apply LeO.ite | refine LeO.bind ?_ (fun _ => ?_)
set_option maxHeartbeats 8000000 in
set_option maxRecDepth 100000 in
theorem laws_szSeries.calls (k : Nat) (A0_0 : Option Addr) (c0_0 : Nat) (l0_0 : List (S80)) (A0_1 : Option Addr) (c0_1 : Nat) (l0_1 : List (S85)) (a1 : Int) (r : Int) (w : World) (hr0_0 : Kd.C k80 w A0_0 l0_0.length l0_0) (hc0_0 : l0_0.length ≤ c0_0) (hr0_1 : Kd.C k85 w A0_1 l0_1.length l0_1) (hc0_1 : l0_1.length ≤ c0_1) (h : laws_szSeries.f k l0_0 l0_1 a1 = some r) :
  Calls Try.prog 17 #[.agg #[.slice A0_0 l0_0.length c0_0, .slice A0_1 l0_1.length c0_1], .int .i64 a1] w fun e w' => e = .returned (.int .i64 r) ∧ Below w.heap.size w w' := by
 have hu39 := Try.underlying39; have HR0_0 := am_ hr0_0; have HC0_0 := am_ hc0_0; clear hr0_0 hc0_0; have HR0_1 := am_ hr0_1; have HC0_1 := am_ hc0_1; clear hr0_1 hc0_1; have HB := am_ (Below.refl w.heap.size w); have H := h; clear h; unfold laws_szSeries.f at H; replace H := bs_ H; obtain ⟨t1002, A3, H⟩ := H
 by_cases c4 : t1002 < 0
 ·rw [if_pos c4] at H; have c4b0 := decide_eq_true c4; clear c4; obtain rfl := si_ H; go_enter Try.func17, Try.ntmps17; go_wp2_with (first | ((with_reducible refine gate_dst (N := 2) rfl ?_); refine bx_ 2 #[.slice A0_0 l0_0.length c0_0, .slice A0_1 l0_1.length c0_1] 39 ?_; intro gb1001 hg w5 hbox hb; have BK1001 := am_ (hbox); have GW1001 := am_ (gs_ hg : w.heap.size ≤ gb1001); replace HB := am_ (below_step bl_ hb); have GE1001 := GW1001; clear hb hbox hg; have hz6 := bk2_ BK1001) | ((with_reducible refine gate_callee (f := 34) rfl ?_); refine gl_ 8 Try.func34 #[.slice A0_0 l0_0.length c0_0, .int .i64 a1] ?_; (with_reducible refine (laws_szLabelS.calls k _ _ l0_0 a1 t1002 _ ?side1 ?side2 A3.out).mono ?_); (case side1 => exact cc_ (Kd.C_below HR0_0.out HB.out)); (case side2 => exact HC0_0.out); rintro e w7 ⟨rfl, hb⟩; refine ⟨_, rfl, ?_⟩; replace BK1001 := vb_ BK1001 hb; replace HB := am_ (below_step bg_ hb); (try clear hb))); go_ret; exact ⟨rf_, bg_⟩
 ·rw [if_neg c4] at H; have c4b0 := decide_eq_false c4; clear c4; replace H := bs_ H; obtain ⟨t1003, A8, H⟩ := H
  by_cases c9 : t1003 < 0
  ·rw [if_pos c9] at H; have c9b0 := decide_eq_true c9; clear c9; obtain rfl := si_ H; go_enter Try.func17, Try.ntmps17; go_wp2_with (first | ((with_reducible refine gate_dst (N := 2) rfl ?_); refine bx_ 2 #[.slice A0_0 l0_0.length c0_0, .slice A0_1 l0_1.length c0_1] 39 ?_; intro gb1001 hg w10 hbox hb; have BK1001 := am_ (hbox); have GW1001 := am_ (gs_ hg : w.heap.size ≤ gb1001); replace HB := am_ (below_step bl_ hb); have GE1001 := GW1001; clear hb hbox hg; have hz11 := bk2_ BK1001) | ((with_reducible refine gate_callee (f := 34) rfl ?_); refine gl_ 8 Try.func34 #[.slice A0_0 l0_0.length c0_0, .int .i64 a1] ?_; (with_reducible refine (laws_szLabelS.calls k _ _ l0_0 a1 t1002 _ ?side1 ?side2 A3.out).mono ?_); (case side1 => exact cc_ (Kd.C_below HR0_0.out HB.out)); (case side2 => exact HC0_0.out); rintro e w12 ⟨rfl, hb⟩; refine ⟨_, rfl, ?_⟩; replace BK1001 := vb_ BK1001 hb; replace HB := am_ (below_step bg_ hb); (try clear hb); have hz13 := bk2_ BK1001) | ((with_reducible refine gate_callee (f := 35) rfl ?_); refine gl_ 14 Try.func35 #[.slice A0_1 l0_1.length c0_1, .int .i64 t1002] ?_; (with_reducible refine (laws_szSampleS.calls _ _ l0_1 t1002 t1003 _ ?side1 ?side2 A8.out).mono ?_); (case side1 => exact cc_ (Kd.C_below HR0_1.out HB.out)); (case side2 => exact HC0_1.out); rintro e w' ⟨rfl, ⟨nd, rfl⟩⟩; refine ⟨_, rfl, ?_⟩)); go_ret; exact ⟨rf_, bg_⟩
  ·rw [if_neg c9] at H; have c9b0 := decide_eq_false c9; clear c9; obtain rfl := si_ H; go_enter Try.func17, Try.ntmps17; go_wp2_with (first | ((with_reducible refine gate_dst (N := 2) rfl ?_); refine bx_ 2 #[.slice A0_0 l0_0.length c0_0, .slice A0_1 l0_1.length c0_1] 39 ?_; intro gb1001 hg w14 hbox hb; have BK1001 := am_ (hbox); have GW1001 := am_ (gs_ hg : w.heap.size ≤ gb1001); replace HB := am_ (below_step bl_ hb); have GE1001 := GW1001; clear hb hbox hg; have hz15 := bk2_ BK1001) | ((with_reducible refine gate_callee (f := 34) rfl ?_); refine gl_ 8 Try.func34 #[.slice A0_0 l0_0.length c0_0, .int .i64 a1] ?_; (with_reducible refine (laws_szLabelS.calls k _ _ l0_0 a1 t1002 _ ?side1 ?side2 A3.out).mono ?_); (case side1 => exact cc_ (Kd.C_below HR0_0.out HB.out)); (case side2 => exact HC0_0.out); rintro e w16 ⟨rfl, hb⟩; refine ⟨_, rfl, ?_⟩; replace BK1001 := vb_ BK1001 hb; replace HB := am_ (below_step bg_ hb); (try clear hb); have hz17 := bk2_ BK1001) | ((with_reducible refine gate_callee (f := 35) rfl ?_); refine gl_ 14 Try.func35 #[.slice A0_1 l0_1.length c0_1, .int .i64 t1002] ?_; (with_reducible refine (laws_szSampleS.calls _ _ l0_1 t1002 t1003 _ ?side1 ?side2 A8.out).mono ?_); (case side1 => exact cc_ (Kd.C_below HR0_1.out HB.out)); (case side2 => exact HC0_1.out); rintro e w' ⟨rfl, ⟨nd, rfl⟩⟩; refine ⟨_, rfl, ?_⟩)); go_ret; exact ⟨rf_, bg_⟩

/-! ### laws_szSeriesS: function 5 -/
def laws_szSeriesS.l0 : Nat → List (S39) → Int → Int → Option (Int)
 | 0, _, _, _ => none
 | k + 1, x0, x1, x5 => if x5 < (x0.length : Int) then (if 0 ≤ x5 then ((laws_szSeries.f k ((rd_T39 x0 x5).f0) ((rd_T39 x0 x5).f1) x1).bind fun t1002 => (if t1002 < 0 then (some (-1)) else (laws_szSeriesS.l0 k x0 t1002 (wrap64 (x5 + 1))))) else (none)) else (some x1)
def laws_szSeriesS.f (k : Nat) (l0 : List (S39)) (a1 : Int) : Option (Int) := if (wrap64 (a1 - (l0.length : Int))) < 0 then (some (-1)) else (laws_szSeriesS.l0 k l0 (wrap64 (a1 - (l0.length : Int))) 0)
theorem laws_szSeriesS.mono_l : ∀ k, (∀ y0 y1 y2, LeO (laws_szSeriesS.l0 k y0 y1 y2) (laws_szSeriesS.l0 (k + 1) y0 y1 y2))
 | 0 => fun _ _ _ r h => by simp [laws_szSeriesS.l0] at h
 | k + 1 => by
  have ih0 := laws_szSeriesS.mono_l k
  ·intro y0 y1 y2
   unfold laws_szSeriesS.l0
   repeat' with_reducible first | apply ih0 | apply laws_szSeries.mono | apply LeO.refl | apply LeO.none | apply LeO.ite | refine LeO.bind ?_ (fun _ => ?_)
theorem laws_szSeriesS.mono : ∀ a0 a1 k, LeO (laws_szSeriesS.f k a0 a1) (laws_szSeriesS.f (k + 1) a0 a1) := by
 intro a0 a1 k
 have ih0 := laws_szSeriesS.mono_l k
 unfold laws_szSeriesS.f
 repeat' with_reducible first | apply ih0 | apply laws_szSeries.mono | apply LeO.refl | apply LeO.none | apply LeO.ite | refine LeO.bind ?_ (fun _ => ?_)
set_option maxHeartbeats 8000000 in
set_option maxRecDepth 100000 in
theorem laws_szSeriesS.calls (k : Nat) (A0 : Option Addr) (c0 : Nat) (l0 : List (S39)) (a1 : Int) (r : Int) (w : World) (hr0 : Kd.C k39 w A0 l0.length l0) (hc0 : l0.length ≤ c0) (h : laws_szSeriesS.f k l0 a1 = some r) :
  Calls Try.prog 5 #[.slice A0 l0.length c0, .int .i64 a1] w fun e w' => e = .returned (.int .i64 r) ∧ Below w.heap.size w w' := by
 have hu39 := Try.underlying39; have HR0 := am_ hr0; have HC0 := am_ hc0; clear hr0 hc0; have HB := am_ (Below.refl w.heap.size w); have H := h; clear h; unfold laws_szSeriesS.f at H
 by_cases c3 : (wrap64 (a1 - (l0.length : Int))) < 0
 ·rw [if_pos c3] at H; have c3b0 := decide_eq_true c3; clear c3; obtain rfl := si_ H; go_enter Try.func5, Try.ntmps5; go_wp2; go_ret; exact ⟨rf_, bl_⟩
 ·rw [if_neg c3] at H; have c3b0 := decide_eq_false c3; clear c3; have H' := am_ H; clear H; go_enter Try.func5, Try.ntmps5; go_wp2
  go_loopg [1, 5] k (fun kq v1 v5 w' => ∃ (x1_1 : Int) (x5_1 : Int), v1 = .int .i64 x1_1 ∧ v5 = .int .i64 x5_1 ∧ Aside0 (laws_szSeriesS.l0 kq l0 x1_1 x5_1 = some r) ∧ Aside0 (kq ≤ k) ∧ Aside0 (Below w.heap.size w w'))
  case atStart => exact ⟨(wrap64 (a1 - (l0.length : Int))), (0), rs_, rs_, H', ⟨Nat.le_refl _⟩, ⟨bl_⟩⟩
  case round =>
   clear H'; (try clear c3); (try clear c3b0); obtain ⟨x1_1, x5_1, rfl, rfl, HA, HK1, HB⟩ := hrel
   cases gk with
   | zero => exact absurd HA.out (by simp [laws_szSeriesS.l0])
   | succ k1 =>
    have H := HA.out; clear HA; simp only [laws_szSeriesS.l0] at H
    by_cases c4 : x5_1 < (l0.length : Int)
    ·rw [if_pos c4] at H; have c4b0 := decide_eq_true c4; clear c4; replace H := is_ H; obtain ⟨c5, H⟩ := H; have c5b0 := decide_eq_true c5; clear c5; replace H := bs_ H; obtain ⟨t1002, A6, H⟩ := H
     by_cases c7 : t1002 < 0
     ·rw [if_pos c7] at H; have c7b0 := decide_eq_true c7; clear c7; obtain rfl := si_ H; have p1001 : 0 ≤ (x5_1 : Int) := od_; have q1001 : x5_1 < (l0.length : Int) := od_; obtain ⟨ad1001, A1001_0, c1001_0, A1001_1, c1001_1, e1001, hx1001_0, hx1001_1, hl1001_0, hi1001_0, hl1001_1, hi1001_1⟩ := at_T39 HR0.out x5_1 p1001 q1001
      cases e1001
      replace hx1001_0 := kp_ HB hx1001_0; replace hx1001_1 := kp_ HB hx1001_1; have HR1001_0 := am_ hi1001_0; have HC1001_0 := am_ hl1001_0; clear hi1001_0 hl1001_0; have HR1001_1 := am_ hi1001_1; have HC1001_1 := am_ hl1001_1; clear hi1001_1 hl1001_1; replace p1001 := eq_true p1001; replace q1001 := eq_true q1001; go_wp2_with (first | ((with_reducible refine gate_callee (f := 17) rfl ?_); refine gl_ 23 Try.func17 #[.agg #[.slice A1001_0 ((rd_T39 l0 x5_1).f0).length c1001_0, .slice A1001_1 ((rd_T39 l0 x5_1).f1).length c1001_1], .int .i64 x1_1] ?_; (with_reducible refine (laws_szSeries.calls k1 _ _ ((rd_T39 l0 x5_1).f0) _ _ ((rd_T39 l0 x5_1).f1) x1_1 t1002 _ ?side1 ?side2 ?side3 ?side4 A6.out).mono ?_); (case side1 => exact cc_ (Kd.C_below HR1001_0.out HB.out)); (case side2 => exact HC1001_0.out); (case side3 => exact cc_ (Kd.C_below HR1001_1.out HB.out)); (case side4 => exact HC1001_1.out); rintro e w8 ⟨rfl, hb⟩; refine ⟨_, rfl, ?_⟩; replace HB := am_ (below_step bl_ hb); (try clear hb))); go_ret; exact ⟨rf_, bl_⟩
     ·rw [if_neg c7] at H; have c7b0 := decide_eq_false c7; clear c7; have H' := am_ H; clear H; have p1001 : 0 ≤ (x5_1 : Int) := od_; have q1001 : x5_1 < (l0.length : Int) := od_; obtain ⟨ad1001, A1001_0, c1001_0, A1001_1, c1001_1, e1001, hx1001_0, hx1001_1, hl1001_0, hi1001_0, hl1001_1, hi1001_1⟩ := at_T39 HR0.out x5_1 p1001 q1001
      cases e1001
      replace hx1001_0 := kp_ HB hx1001_0; replace hx1001_1 := kp_ HB hx1001_1; have HR1001_0 := am_ hi1001_0; have HC1001_0 := am_ hl1001_0; clear hi1001_0 hl1001_0; have HR1001_1 := am_ hi1001_1; have HC1001_1 := am_ hl1001_1; clear hi1001_1 hl1001_1; replace p1001 := eq_true p1001; replace q1001 := eq_true q1001; go_wp2_with (first | ((with_reducible refine gate_callee (f := 17) rfl ?_); refine gl_ 23 Try.func17 #[.agg #[.slice A1001_0 ((rd_T39 l0 x5_1).f0).length c1001_0, .slice A1001_1 ((rd_T39 l0 x5_1).f1).length c1001_1], .int .i64 x1_1] ?_; (with_reducible refine (laws_szSeries.calls k1 _ _ ((rd_T39 l0 x5_1).f0) _ _ ((rd_T39 l0 x5_1).f1) x1_1 t1002 _ ?side1 ?side2 ?side3 ?side4 A6.out).mono ?_); (case side1 => exact cc_ (Kd.C_below HR1001_0.out HB.out)); (case side2 => exact HC1001_0.out); (case side3 => exact cc_ (Kd.C_below HR1001_1.out HB.out)); (case side4 => exact HC1001_1.out); rintro e w9 ⟨rfl, hb⟩; refine ⟨_, rfl, ?_⟩; replace HB := am_ (below_step bl_ hb); (try clear hb))); go_roundg k1
      case measure => have := HK1.out; omega
      case rel => exact ⟨(t1002), (wrap64 (x5_1 + 1)), rs_, rs_, H', ⟨by have := HK1.out; omega⟩, ⟨bl_⟩⟩
    ·rw [if_neg c4] at H; have c4b0 := decide_eq_false c4; clear c4; obtain rfl := si_ H; go_wp2; go_ret; exact ⟨rf_, bl_⟩

/-! ### spec_l2Of: function 19 -/
def spec_l2Of.l0 : Nat → ByteArray → List (S60) → Int → Int → Option (ByteArray)
 | 0, _, _, _, _ => none
 | k + 1, x1, x7, x8, x9 => if x9 < x8 then (if 0 ≤ x9 then (if x9 < (x7.length : Int) then (if ((rd_T60 x7 x9).f0).toList = x1.toList then (some ((rd_T60 x7 x9).f1)) else (spec_l2Of.l0 k x1 x7 x8 (wrap64 (x9 + 1)))) else (none)) else (none)) else (some (⟨#[]⟩ : ByteArray))
def spec_l2Of.f (k : Nat) (l0 : List (S60)) (a1 : ByteArray) : Option (ByteArray) := spec_l2Of.l0 k a1 l0 (l0.length : Int) 0
theorem spec_l2Of.mono_l : ∀ k, (∀ y0 y1 y2 y3, LeO (spec_l2Of.l0 k y0 y1 y2 y3) (spec_l2Of.l0 (k + 1) y0 y1 y2 y3))
 | 0 => fun _ _ _ _ r h => by simp [spec_l2Of.l0] at h
 | k + 1 => by
  have ih0 := spec_l2Of.mono_l k
  ·intro y0 y1 y2 y3
   unfold spec_l2Of.l0
   repeat' with_reducible first | apply ih0 | apply LeO.refl | apply LeO.none | apply LeO.ite | refine LeO.bind ?_ (fun _ => ?_)
theorem spec_l2Of.mono : ∀ a0 a1 k, LeO (spec_l2Of.f k a0 a1) (spec_l2Of.f (k + 1) a0 a1) := by
 intro a0 a1 k
 have ih0 := spec_l2Of.mono_l k
 unfold spec_l2Of.f
 repeat' with_reducible first | apply ih0 | apply LeO.refl | apply LeO.none | apply LeO.ite | refine LeO.bind ?_ (fun _ => ?_)
set_option maxHeartbeats 8000000 in
set_option maxRecDepth 100000 in
theorem spec_l2Of.calls (k : Nat) (A0 : Option Addr) (c0 : Nat) (l0 : List (S60)) (a1 : ByteArray) (r : ByteArray) (w : World) (hr0 : Kd.C k60 w A0 l0.length l0) (hc0 : l0.length ≤ c0) (h : spec_l2Of.f k l0 a1 = some r) :
  Calls Try.prog 19 #[.slice A0 l0.length c0, .string a1] w fun e w' => e = .returned (.string r) ∧ Below w.heap.size w w' := by
 have hu60 := Try.underlying60; have HR0 := am_ hr0; have HC0 := am_ hc0; clear hr0 hc0; have HB := am_ (Below.refl w.heap.size w); have H := h; clear h; unfold spec_l2Of.f at H; have H' := am_ H; clear H; go_enter Try.func19, Try.ntmps19; go_wp2
 go_loopg [9] k (fun kq v9 w' => ∃ (x9_1 : Int), v9 = .int .i64 x9_1 ∧ Aside0 (spec_l2Of.l0 kq a1 l0 (l0.length : Int) x9_1 = some r) ∧ Aside0 (kq ≤ k) ∧ Aside0 (Below w.heap.size w w'))
 case atStart => exact ⟨(0), rs_, H', ⟨Nat.le_refl _⟩, ⟨bl_⟩⟩
 case round =>
  clear H'; obtain ⟨x9_1, rfl, HA, HK1, HB⟩ := hrel
  cases gk with
  | zero => exact absurd HA.out (by simp [spec_l2Of.l0])
  | succ k1 =>
   have H := HA.out; clear HA; simp only [spec_l2Of.l0] at H
   by_cases c3 : x9_1 < (l0.length : Int)
   ·rw [if_pos c3] at H; have c3b0 := decide_eq_true c3; clear c3; replace H := is_ H; obtain ⟨c4, H⟩ := H; have c4b0 := decide_eq_true c4; clear c4; replace H := is_ H; obtain ⟨c5, H⟩ := H; have c5b0 := decide_eq_true c5; clear c5
    by_cases c6 : ((rd_T60 l0 x9_1).f0).toList = a1.toList
    ·rw [if_pos c6] at H; have c6b0 := eb_ c6; have c6b1 := en_ c6; clear c6; obtain rfl := si_ H; have p1001 : 0 ≤ (x9_1 : Int) := od_; have q1001 : x9_1 < (l0.length : Int) := od_; obtain ⟨ad1001, e1001, hx1001_0, hx1001_1⟩ := at_T60 HR0.out x9_1 p1001 q1001
     cases e1001
     replace hx1001_0 := kp_ HB hx1001_0; replace hx1001_1 := kp_ HB hx1001_1; replace p1001 := eq_true p1001; replace q1001 := eq_true q1001; go_wp2_with (first | ((with_reducible refine gate_dst (N := 6) rfl ?_); refine bx_ 6 #[.string (⟨#[]⟩ : ByteArray), .string (⟨#[]⟩ : ByteArray)] 60 ?_; intro gb1002 hg w7 hbox hb; have BK1002 := am_ (hbox); have GW1002 := am_ (gs_ hg : w.heap.size ≤ gb1002); replace HB := am_ (below_step bl_ hb); have GE1002 := GW1002; clear hb hbox hg; have hz8 := bk2_ BK1002)); go_ret; exact ⟨rf_, bg_⟩
    ·rw [if_neg c6] at H; have c6b0 := nb_ c6; have c6b1 := nn_ c6; have H' := am_ H; clear H; have p1001 : 0 ≤ (x9_1 : Int) := od_; have q1001 : x9_1 < (l0.length : Int) := od_; obtain ⟨ad1001, e1001, hx1001_0, hx1001_1⟩ := at_T60 HR0.out x9_1 p1001 q1001
     cases e1001
     replace hx1001_0 := kp_ HB hx1001_0; replace hx1001_1 := kp_ HB hx1001_1; replace p1001 := eq_true p1001; replace q1001 := eq_true q1001; go_wp2_with (first | ((with_reducible refine gate_dst (N := 6) rfl ?_); refine bx_ 6 #[.string (⟨#[]⟩ : ByteArray), .string (⟨#[]⟩ : ByteArray)] 60 ?_; intro gb1002 hg w9 hbox hb; have BK1002 := am_ (hbox); have GW1002 := am_ (gs_ hg : w.heap.size ≤ gb1002); replace HB := am_ (below_step bl_ hb); have GE1002 := GW1002; clear hb hbox hg; have hz10 := bk2_ BK1002)); go_roundg k1
     case measure => have := HK1.out; omega
     case rel => exact ⟨(wrap64 (x9_1 + 1)), rs_, H', ⟨by have := HK1.out; omega⟩, ⟨bg_⟩⟩
   ·rw [if_neg c3] at H; have c3b0 := decide_eq_false c3; clear c3; obtain rfl := si_ H; go_wp2; go_ret; exact ⟨rf_, bl_⟩

/-! ### spec_l2CmpNum: function 63 -/
def spec_l2CmpNum.f (a0 : Int) (a1 : Int) : Option (Int) := if a0 < a1 then (some (-1)) else (if a0 > a1 then (some 1) else (some 0))
set_option maxHeartbeats 8000000 in
set_option maxRecDepth 100000 in
theorem spec_l2CmpNum.calls (a0 : Int) (a1 : Int) (r : Int) (w : World) (h : spec_l2CmpNum.f a0 a1 = some r) :
  Calls Try.prog 63 #[.int .i64 a0, .int .i64 a1] w fun e w' => e = .returned (.int .i64 r) ∧ Drawn0 w w' := by
 have H := h; clear h; unfold spec_l2CmpNum.f at H
 by_cases c3 : a0 < a1
 ·rw [if_pos c3] at H; have c3b0 := decide_eq_true c3; clear c3; obtain rfl := si_ H; go_enter Try.func63, Try.ntmps63; go_wp2; go_ret; exact ⟨by first | rfl | (simp; done) | (simp [*]; done), by repeat (first | exact Drawn0.refl _ | apply Drawn0.step)⟩
 ·rw [if_neg c3] at H; have c3b0 := decide_eq_false c3; clear c3
  by_cases c4 : a0 > a1
  ·rw [if_pos c4] at H; have c4b0 := dg_ c4; clear c4; obtain rfl := si_ H; go_enter Try.func63, Try.ntmps63; go_wp2; go_ret; exact ⟨by first | rfl | (simp; done) | (simp [*]; done), by repeat (first | exact Drawn0.refl _ | apply Drawn0.step)⟩
  ·rw [if_neg c4] at H; have c4b0 := df_ c4; clear c4; obtain rfl := si_ H; go_enter Try.func63, Try.ntmps63; go_wp2; go_ret; exact ⟨by first | rfl | (simp; done) | (simp [*]; done), by repeat (first | exact Drawn0.refl _ | apply Drawn0.step)⟩

/-! ### spec_l2CmpText: function 39 -/
mutual
def spec_l2CmpText.l0 : Nat → ByteArray → ByteArray → Int → Option (Int)
 | 0, _, _, _ => none
 | k + 1, x0, x1, x5 => if x5 < (x0.size : Int) then (spec_l2CmpText.j1 k x0 x1 x5 (decide (x5 < (x1.size : Int)))) else (spec_l2CmpText.j1 k x0 x1 x5 false)
def spec_l2CmpText.j1 : Nat → ByteArray → ByteArray → Int → Bool → Option (Int)
 | 0, _, _, _, _ => none
 | k + 1, x0, x1, x5, x15 => if x15 = true then (if 0 ≤ x5 then (if x5 < (x0.size : Int) then (if x5 < (x1.size : Int) then (if (bt x0 x5) = (bt x1 x5) then (spec_l2CmpText.l0 k x0 x1 (wrap64 (x5 + 1))) else ((spec_l2CmpNum.f (wrap64 (bt x0 x5)) (wrap64 (bt x1 x5))).bind fun t1001 => (some t1001))) else (none)) else (none)) else (none)) else ((spec_l2CmpNum.f (x0.size : Int) (x1.size : Int)).bind fun t1002 => (some t1002))
end
def spec_l2CmpText.f (k : Nat) (a0 : ByteArray) (a1 : ByteArray) : Option (Int) := spec_l2CmpText.l0 k a0 a1 0
theorem spec_l2CmpText.mono_l : ∀ k, (∀ y0 y1 y2, LeO (spec_l2CmpText.l0 k y0 y1 y2) (spec_l2CmpText.l0 (k + 1) y0 y1 y2)) ∧ (∀ y0 y1 y2 y3, LeO (spec_l2CmpText.j1 k y0 y1 y2 y3) (spec_l2CmpText.j1 (k + 1) y0 y1 y2 y3))
 | 0 => ⟨fun _ _ _ r h => by simp [spec_l2CmpText.l0] at h, fun _ _ _ _ r h => by simp [spec_l2CmpText.j1] at h⟩
 | k + 1 => by
  obtain ⟨ih0, ih1⟩ := spec_l2CmpText.mono_l k
  refine ⟨?_, ?_⟩
  ·intro y0 y1 y2
   unfold spec_l2CmpText.l0
   repeat' with_reducible first | apply ih0 | apply ih1 | apply LeO.refl | apply LeO.none | apply LeO.ite | refine LeO.bind ?_ (fun _ => ?_)
  ·intro y0 y1 y2 y3
   unfold spec_l2CmpText.j1
   repeat' with_reducible first | apply ih0 | apply ih1 | apply LeO.refl | apply LeO.none | apply LeO.ite | refine LeO.bind ?_ (fun _ => ?_)
theorem spec_l2CmpText.mono : ∀ a0 a1 k, LeO (spec_l2CmpText.f k a0 a1) (spec_l2CmpText.f (k + 1) a0 a1) := by
 intro a0 a1 k
 obtain ⟨ih0, ih1⟩ := spec_l2CmpText.mono_l k
 unfold spec_l2CmpText.f
 repeat' with_reducible first | apply ih0 | apply ih1 | apply LeO.refl | apply LeO.none | apply LeO.ite | refine LeO.bind ?_ (fun _ => ?_)
set_option maxHeartbeats 8000000 in
set_option maxRecDepth 100000 in
theorem spec_l2CmpText.calls (k : Nat) (a0 : ByteArray) (a1 : ByteArray) (r : Int) (w : World) (h : spec_l2CmpText.f k a0 a1 = some r) :
  Calls Try.prog 39 #[.string a0, .string a1] w fun e w' => e = .returned (.int .i64 r) ∧ Drawn0 w w' := by
 have H := h; clear h; unfold spec_l2CmpText.f at H; have H' := am_ H; clear H; go_enter Try.func39, Try.ntmps39; go_wp2
 go_loopg [5] k (fun kq v5 w' => ∃ (x5_1 : Int), v5 = .int .i64 x5_1 ∧ Aside0 (spec_l2CmpText.l0 kq a0 a1 x5_1 = some r) ∧ Aside0 (kq ≤ k) ∧ Drawn0 w w')
 case atStart => exact ⟨(0), rs_, H', ⟨Nat.le_refl _⟩, by repeat (first | exact Drawn0.refl _ | apply Drawn0.step)⟩
 case round =>
  clear H'; obtain ⟨x5_1, rfl, HA, HK1, ⟨m1, rfl⟩⟩ := hrel
  cases gk with
  | zero => exact absurd HA.out (by simp [spec_l2CmpText.l0])
  | succ k1 =>
   have H := HA.out; clear HA; simp only [spec_l2CmpText.l0] at H; have HC3 := am_ H; clear H; go_upto_region 2 with (fail)
   go_cut [15] (fun v15 wc => ∃ (kq : Nat) (x15_2 : Bool), v15 = .bool x15_2 ∧ Aside0 (spec_l2CmpText.j1 kq a0 a1 x5_1 x15_2 = some r) ∧ Aside0 (kq ≤ k1) ∧ Drawn0 w wc)
   case first =>
    have H := HC3.out; clear HC3
    by_cases c4 : x5_1 < (a0.size : Int)
    ·rw [if_pos c4] at H; have c4b0 := decide_eq_true c4; clear c4; (first | rw [c4b0] | (simp only [i64_w, i32_w]; rw [c4b0]) | skip); have H' := am_ H; clear H; go_wp2; go_meet
     case rel => exact ⟨_, (decide (x5_1 < (a1.size : Int))), rs_, H', ⟨by have := HK1.out; first | omega | exact Nat.le_refl _⟩, by repeat (first | exact Drawn0.refl _ | apply Drawn0.step)⟩
    ·rw [if_neg c4] at H; have c4b0 := decide_eq_false c4; clear c4; (first | rw [c4b0] | (simp only [i64_w, i32_w]; rw [c4b0]) | skip); have H' := am_ H; clear H; go_wp2; go_meet
     case rel => exact ⟨_, (false), rs_, H', ⟨by have := HK1.out; first | omega | exact Nat.le_refl _⟩, by repeat (first | exact Drawn0.refl _ | apply Drawn0.step)⟩
   case rest =>
    clear HC3; obtain ⟨kq, x15_2, rfl, HA, HJ2, ⟨mc2, rfl⟩⟩ := hcut
    cases kq with
    | zero => exact absurd HA.out (by simp [spec_l2CmpText.j1])
    | succ kj2 =>
     have H := HA.out; clear HA; simp only [spec_l2CmpText.j1] at H
     by_cases c5 : x15_2 = true
     ·subst c5; replace H := it_ H; replace H := is_ H; obtain ⟨c6, H⟩ := H; have c6b0 := decide_eq_true c6; clear c6; replace H := is_ H; obtain ⟨c7, H⟩ := H; have c7b0 := decide_eq_true c7; clear c7; replace H := is_ H; obtain ⟨c9, H⟩ := H; have c9b0 := decide_eq_true c9; clear c9
      by_cases c11 : (bt a0 x5_1) = (bt a1 x5_1)
      ·rw [if_pos c11] at H; have c11b0 := eb_ c11; have c11b1 := en_ c11; clear c11; have H' := am_ H; clear H; have p8 : 0 ≤ (x5_1 : Int) := od_; have q8 : x5_1 < (a0.size : Int) := od_; have hx8 := bt_at a0 x5_1; replace p8 := eq_true p8; replace q8 := eq_true q8; have p10 : 0 ≤ (x5_1 : Int) := od_; have q10 : x5_1 < (a1.size : Int) := od_; have hx10 := bt_at a1 x5_1; replace p10 := eq_true p10; replace q10 := eq_true q10; go_wp2; (repeat (go_quiet (fail); try go_wp2)); go_roundg kj2
       case measure => have := HK1.out; have := HJ2.out; omega
       case rel => exact ⟨(wrap64 (x5_1 + 1)), rs_, H', ⟨by have := HK1.out; have := HJ2.out; omega⟩, by repeat (first | exact Drawn0.refl _ | apply Drawn0.step)⟩
      ·rw [if_neg c11] at H; have c11b0 := nb_ c11; have c11b1 := nn_ c11; replace H := bs_ H; obtain ⟨t1001, A14, H⟩ := H; obtain rfl := si_ H; have p8 : 0 ≤ (x5_1 : Int) := od_; have q8 : x5_1 < (a0.size : Int) := od_; have hx8 := bt_at a0 x5_1; replace p8 := eq_true p8; replace q8 := eq_true q8; have p10 : 0 ≤ (x5_1 : Int) := od_; have q10 : x5_1 < (a1.size : Int) := od_; have hx10 := bt_at a1 x5_1; replace p10 := eq_true p10; replace q10 := eq_true q10; have p12 : 0 ≤ (x5_1 : Int) := od_; have q12 : x5_1 < (a0.size : Int) := od_; have hx12 := bt_at a0 x5_1; replace p12 := eq_true p12; replace q12 := eq_true q12; have p13 : 0 ≤ (x5_1 : Int) := od_; have q13 : x5_1 < (a1.size : Int) := od_; have hx13 := bt_at a1 x5_1; replace p13 := eq_true p13; replace q13 := eq_true q13; go_wp2_with (fail); (repeat (go_quiet (first | (go_at_call 63; (with_reducible refine (spec_l2CmpNum.calls (wrap64 (bt a0 x5_1)) (wrap64 (bt a1 x5_1)) t1001 _ A14.out).mono ?_); rintro e w' ⟨rfl, ⟨nd, rfl⟩⟩; (try exact dd_))); try go_wp2)); go_ret; exact ⟨by first | rfl | (simp; done) | (simp [*]; done), by repeat (first | exact Drawn0.refl _ | apply Drawn0.step)⟩
     ·replace c5 := Bool.eq_false_iff.mpr c5; subst c5; replace H := if_ H; replace H := bs_ H; obtain ⟨t1002, A15, H⟩ := H; obtain rfl := si_ H; go_wp2_with (first | (go_at_call 63; (with_reducible refine (spec_l2CmpNum.calls (a0.size : Int) (a1.size : Int) t1002 _ A15.out).mono ?_); rintro e w' ⟨rfl, ⟨nd, rfl⟩⟩; (try exact dd_))); go_ret; exact ⟨by first | rfl | (simp; done) | (simp [*]; done), by repeat (first | exact Drawn0.refl _ | apply Drawn0.step)⟩

/-! ### spec_l2Digit: function 102 -/
def spec_l2Digit.f (a0 : Int) : Option (Bool) := if a0 ≥ 48 then (some (decide (a0 ≤ 57))) else (some false)
set_option maxHeartbeats 8000000 in
set_option maxRecDepth 100000 in
theorem spec_l2Digit.calls (a0 : Int) (r : Bool) (w : World) (h : spec_l2Digit.f a0 = some r) :
  Calls Try.prog 102 #[.int .u8 a0] w fun e w' => e = .returned (.bool r) ∧ Drawn0 w w' := by
 have H := h; clear h; unfold spec_l2Digit.f at H
 by_cases c2 : a0 ≥ 48
 ·rw [if_pos c2] at H; have c2b0 : decide (48 ≤ a0) = true := decide_eq_true c2; clear c2; obtain rfl := si_ H; go_enter Try.func102, Try.ntmps102; go_wp2; go_ret; exact ⟨by first | rfl | (simp; done) | (simp [*]; done), by repeat (first | exact Drawn0.refl _ | apply Drawn0.step)⟩
 ·rw [if_neg c2] at H; have c2b0 : decide (48 ≤ a0) = false := decide_eq_false c2; clear c2; obtain rfl := si_ H; go_enter Try.func102, Try.ntmps102; go_wp2; go_ret; exact ⟨by first | rfl | (simp; done) | (simp [*]; done), by repeat (first | exact Drawn0.refl _ | apply Drawn0.step)⟩

/-! ### spec_l2Letter: function 103 -/
def spec_l2Letter.f (a0 : Int) : Option (Bool) := if a0 ≥ 97 then (if a0 ≤ 122 then (some true) else (if a0 ≥ 65 then (some (decide (a0 ≤ 90))) else (some false))) else (if a0 ≥ 65 then (some (decide (a0 ≤ 90))) else (some false))
set_option maxHeartbeats 8000000 in
set_option maxRecDepth 100000 in
theorem spec_l2Letter.calls (a0 : Int) (r : Bool) (w : World) (h : spec_l2Letter.f a0 = some r) :
  Calls Try.prog 103 #[.int .u8 a0] w fun e w' => e = .returned (.bool r) ∧ Drawn0 w w' := by
 have H := h; clear h; unfold spec_l2Letter.f at H
 by_cases c2 : a0 ≥ 97
 ·rw [if_pos c2] at H; have c2b0 : decide (97 ≤ a0) = true := decide_eq_true c2; clear c2
  by_cases c3 : a0 ≤ 122
  ·rw [if_pos c3] at H; have c3b0 := decide_eq_true c3; clear c3; obtain rfl := si_ H; go_enter Try.func103, Try.ntmps103; go_wp2; go_ret; exact ⟨by first | rfl | (simp; done) | (simp [*]; done), by repeat (first | exact Drawn0.refl _ | apply Drawn0.step)⟩
  ·rw [if_neg c3] at H; have c3b0 := decide_eq_false c3; clear c3
   by_cases c4 : a0 ≥ 65
   ·rw [if_pos c4] at H; have c4b0 : decide (65 ≤ a0) = true := decide_eq_true c4; clear c4; obtain rfl := si_ H; go_enter Try.func103, Try.ntmps103; go_wp2; go_ret; exact ⟨by first | rfl | (simp; done) | (simp [*]; done), by repeat (first | exact Drawn0.refl _ | apply Drawn0.step)⟩
   ·rw [if_neg c4] at H; have c4b0 : decide (65 ≤ a0) = false := decide_eq_false c4; clear c4; obtain rfl := si_ H; go_enter Try.func103, Try.ntmps103; go_wp2; go_ret; exact ⟨by first | rfl | (simp; done) | (simp [*]; done), by repeat (first | exact Drawn0.refl _ | apply Drawn0.step)⟩
 ·rw [if_neg c2] at H; have c2b0 : decide (97 ≤ a0) = false := decide_eq_false c2; clear c2
  by_cases c5 : a0 ≥ 65
  ·rw [if_pos c5] at H; have c5b0 : decide (65 ≤ a0) = true := decide_eq_true c5; clear c5; obtain rfl := si_ H; go_enter Try.func103, Try.ntmps103; go_wp2; go_ret; exact ⟨by first | rfl | (simp; done) | (simp [*]; done), by repeat (first | exact Drawn0.refl _ | apply Drawn0.step)⟩
  ·rw [if_neg c5] at H; have c5b0 : decide (65 ≤ a0) = false := decide_eq_false c5; clear c5; obtain rfl := si_ H; go_enter Try.func103, Try.ntmps103; go_wp2; go_ret; exact ⟨by first | rfl | (simp; done) | (simp [*]; done), by repeat (first | exact Drawn0.refl _ | apply Drawn0.step)⟩

/-! ### spec_l2Name: function 89 -/
mutual
def spec_l2Name.j0 : Nat → ByteArray → Bool → Option (Bool)
 | 0, _, _ => none
 | k + 1, x0, x16 => if x16 = true then (some false) else (spec_l2Name.l0 k x0 0)
def spec_l2Name.l0 : Nat → ByteArray → Int → Option (Bool)
 | 0, _, _ => none
 | k + 1, x0, x3 => if x3 < (x0.size : Int) then (if 0 ≤ x3 then ((spec_l2Letter.f (bt x0 x3)).bind fun t1002 => (if t1002 = true then (spec_l2Name.l0 k x0 (wrap64 (x3 + 1))) else ((spec_l2Digit.f (bt x0 x3)).bind fun t1003 => (if t1003 = true then (spec_l2Name.l0 k x0 (wrap64 (x3 + 1))) else (if (bt x0 x3) = 95 then (spec_l2Name.l0 k x0 (wrap64 (x3 + 1))) else (some false)))))) else (none)) else (some true)
end
def spec_l2Name.f (k : Nat) (a0 : ByteArray) : Option (Bool) := if (a0.size : Int) < 1 then (spec_l2Name.j0 k a0 true) else (if (a0.size : Int) > 40 then (spec_l2Name.j0 k a0 true) else (if 0 < (a0.size : Int) then ((spec_l2Digit.f (bt a0 0)).bind fun t1001 => (spec_l2Name.j0 k a0 t1001)) else (none)))
theorem spec_l2Name.mono_l : ∀ k, (∀ y0 y1, LeO (spec_l2Name.j0 k y0 y1) (spec_l2Name.j0 (k + 1) y0 y1)) ∧ (∀ y0 y1, LeO (spec_l2Name.l0 k y0 y1) (spec_l2Name.l0 (k + 1) y0 y1))
 | 0 => ⟨fun _ _ r h => by simp [spec_l2Name.j0] at h, fun _ _ r h => by simp [spec_l2Name.l0] at h⟩
 | k + 1 => by
  obtain ⟨ih0, ih1⟩ := spec_l2Name.mono_l k
  refine ⟨?_, ?_⟩
  ·intro y0 y1
   unfold spec_l2Name.j0
   repeat' with_reducible first | apply ih0 | apply ih1 | apply LeO.refl | apply LeO.none | apply LeO.ite | refine LeO.bind ?_ (fun _ => ?_)
  ·intro y0 y1
   unfold spec_l2Name.l0
   repeat' with_reducible first | apply ih0 | apply ih1 | apply LeO.refl | apply LeO.none | apply LeO.ite | refine LeO.bind ?_ (fun _ => ?_)
theorem spec_l2Name.mono : ∀ a0 k, LeO (spec_l2Name.f k a0) (spec_l2Name.f (k + 1) a0) := by
 intro a0 k
 obtain ⟨ih0, ih1⟩ := spec_l2Name.mono_l k
 unfold spec_l2Name.f
 repeat' with_reducible first | apply ih0 | apply ih1 | apply LeO.refl | apply LeO.none | apply LeO.ite | refine LeO.bind ?_ (fun _ => ?_)
set_option maxHeartbeats 8000000 in
set_option maxRecDepth 100000 in
theorem spec_l2Name.calls (k : Nat) (a0 : ByteArray) (r : Bool) (w : World) (h : spec_l2Name.f k a0 = some r) :
  Calls Try.prog 89 #[.string a0] w fun e w' => e = .returned (.bool r) ∧ Drawn0 w w' := by
 have H := h; clear h; unfold spec_l2Name.f at H; have HC2 := am_ H; clear H; go_enter Try.func89, Try.ntmps89; go_upto_region 1 with (fail)
 go_cut [16] (fun v16 wc => ∃ (kq : Nat) (x16_1 : Bool), v16 = .bool x16_1 ∧ Aside0 (spec_l2Name.j0 kq a0 x16_1 = some r) ∧ Aside0 (kq ≤ k) ∧ Drawn0 w wc)
 case first =>
  have H := HC2.out; clear HC2
  by_cases c3 : (a0.size : Int) < 1
  ·rw [if_pos c3] at H; have c3b0 := decide_eq_true c3; have c3b1 : decide (a0.size < 1) = true := decide_eq_true (by omega); clear c3; (first | rw [c3b0] | (simp only [i64_w, i32_w]; rw [c3b0]) | skip); have H' := am_ H; clear H; go_wp2; go_meet
   case rel => exact ⟨_, (true), rs_, H', ⟨by first | omega | exact Nat.le_refl _⟩, by repeat (first | exact Drawn0.refl _ | apply Drawn0.step)⟩
  ·rw [if_neg c3] at H; have c3b0 := decide_eq_false c3; have c3b1 : decide (a0.size < 1) = false := decide_eq_false (by omega); clear c3; (first | rw [c3b0] | (simp only [i64_w, i32_w]; rw [c3b0]) | skip)
   by_cases c4 : (a0.size : Int) > 40
   ·rw [if_pos c4] at H; have c4b0 := dg_ c4; have c4b1 : decide (40 < a0.size) = true := decide_eq_true (by omega); clear c4; have H' := am_ H; clear H; go_wp2; go_meet
    case rel => exact ⟨_, (true), rs_, H', ⟨by first | omega | exact Nat.le_refl _⟩, by repeat (first | exact Drawn0.refl _ | apply Drawn0.step)⟩
   ·rw [if_neg c4] at H; have c4b0 := df_ c4; have c4b1 : decide (40 < a0.size) = false := decide_eq_false (by omega); clear c4; replace H := is_ H; obtain ⟨c5, H⟩ := H; have c5b0 := decide_eq_true c5; have c5b1 : decide (0 < a0.size) = true := decide_eq_true (by omega); clear c5; replace H := bs_ H; obtain ⟨t1001, A7, H⟩ := H; have H' := am_ H; clear H; have p6 : 0 ≤ (0 : Int) := (by omega); have q6 : 0 < a0.size := (by have : (0 : Int) < (a0.size : Int) := od_; omega); have hx6 : ∀ h : 0 < a0.size, ((a0[0]'h).toNat : Int) = bt a0 0 := bt_at a0 0; clear p6; have qi6 : (0 < (a0.size : Int)) = True := eq_true (od_); replace q6 := eq_true q6; go_wp2_with (first | (go_at_call 102; (with_reducible refine (spec_l2Digit.calls (bt a0 0) t1001 _ A7.out).mono ?_); rintro e w' ⟨rfl, ⟨nd, rfl⟩⟩)); go_meet
    case rel => exact ⟨_, (t1001), rs_, H', ⟨by first | omega | exact Nat.le_refl _⟩, by repeat (first | exact Drawn0.refl _ | apply Drawn0.step)⟩
 case rest =>
  clear HC2; obtain ⟨kq, x16_1, rfl, HA, HJ1, ⟨mc1, rfl⟩⟩ := hcut
  cases kq with
  | zero => exact absurd HA.out (by simp [spec_l2Name.j0])
  | succ kj1 =>
   have H := HA.out; clear HA; simp only [spec_l2Name.j0] at H
   by_cases c8 : x16_1 = true
   ·subst c8; replace H := it_ H; obtain rfl := si_ H; go_wp2; go_ret; exact ⟨by first | rfl | (simp; done) | (simp [*]; done), by repeat (first | exact Drawn0.refl _ | apply Drawn0.step)⟩
   ·replace c8 := Bool.eq_false_iff.mpr c8; subst c8; replace H := if_ H; have H' := am_ H; clear H; go_wp2
    go_loopg [3] kj1 (fun kq v3 w' => ∃ (x3_2 : Int), v3 = .int .i64 x3_2 ∧ Aside0 (spec_l2Name.l0 kq a0 x3_2 = some r) ∧ Aside0 (kq ≤ kj1) ∧ Drawn0 w w')
    case atStart => exact ⟨(0), rs_, H', ⟨Nat.le_refl _⟩, by repeat (first | exact Drawn0.refl _ | apply Drawn0.step)⟩
    case round =>
     clear H'; (try clear c8); obtain ⟨x3_2, rfl, HA, HK2, ⟨m2, rfl⟩⟩ := hrel
     cases gk with
     | zero => exact absurd HA.out (by simp [spec_l2Name.l0])
     | succ k2 =>
      have H := HA.out; clear HA; simp only [spec_l2Name.l0] at H
      by_cases c9 : x3_2 < (a0.size : Int)
      ·rw [if_pos c9] at H; have c9b0 := decide_eq_true c9; clear c9; replace H := is_ H; obtain ⟨c10, H⟩ := H; have c10b0 := decide_eq_true c10; clear c10; replace H := bs_ H; obtain ⟨t1002, A12, H⟩ := H
       by_cases c13 : t1002 = true
       ·subst c13; replace H := it_ H; have H' := am_ H; clear H; have p11 : 0 ≤ (x3_2 : Int) := od_; have q11 : x3_2 < (a0.size : Int) := od_; have hx11 := bt_at a0 x3_2; replace p11 := eq_true p11; replace q11 := eq_true q11; go_wp2_with (first | ((with_reducible refine gate_callee (f := 103) rfl ?_); refine gl_ 26 Try.func103 #[.int .u8 (bt a0 x3_2)] ?_; (with_reducible refine (spec_l2Letter.calls (bt a0 x3_2) true _ A12.out).mono ?_); rintro e w' ⟨rfl, ⟨nd, rfl⟩⟩; refine ⟨_, rfl, ?_⟩)); go_roundg k2
        case measure => have := HJ1.out; have := HK2.out; omega
        case rel => exact ⟨(wrap64 (x3_2 + 1)), rs_, H', ⟨by have := HJ1.out; have := HK2.out; omega⟩, by repeat (first | exact Drawn0.refl _ | apply Drawn0.step)⟩
       ·replace c13 := Bool.eq_false_iff.mpr c13; subst c13; replace H := if_ H; replace H := bs_ H; obtain ⟨t1003, A15, H⟩ := H
        by_cases c16 : t1003 = true
        ·subst c16; replace H := it_ H; have H' := am_ H; clear H; have p11 : 0 ≤ (x3_2 : Int) := od_; have q11 : x3_2 < (a0.size : Int) := od_; have hx11 := bt_at a0 x3_2; replace p11 := eq_true p11; replace q11 := eq_true q11; go_wp2_with (first | ((with_reducible refine gate_callee (f := 103) rfl ?_); refine gl_ 26 Try.func103 #[.int .u8 (bt a0 x3_2)] ?_; (with_reducible refine (spec_l2Letter.calls (bt a0 x3_2) false _ A12.out).mono ?_); rintro e w' ⟨rfl, ⟨nd, rfl⟩⟩; refine ⟨_, rfl, ?_⟩; have p14 : 0 ≤ (x3_2 : Int) := od_; have q14 : x3_2 < (a0.size : Int) := od_; have hx14 := bt_at a0 x3_2; replace p14 := eq_true p14; replace q14 := eq_true q14) | (go_at_call 102; (with_reducible refine (spec_l2Digit.calls (bt a0 x3_2) true _ A15.out).mono ?_); rintro e w' ⟨rfl, ⟨nd, rfl⟩⟩)); go_roundg k2
         case measure => have := HJ1.out; have := HK2.out; omega
         case rel => exact ⟨(wrap64 (x3_2 + 1)), rs_, H', ⟨by have := HJ1.out; have := HK2.out; omega⟩, by repeat (first | exact Drawn0.refl _ | apply Drawn0.step)⟩
        ·replace c16 := Bool.eq_false_iff.mpr c16; subst c16; replace H := if_ H
         by_cases c18 : (bt a0 x3_2) = 95
         ·rw [if_pos c18] at H; have c18b0 := eb_ c18; have c18b1 := en_ c18; clear c18; have H' := am_ H; clear H; have p11 : 0 ≤ (x3_2 : Int) := od_; have q11 : x3_2 < (a0.size : Int) := od_; have hx11 := bt_at a0 x3_2; replace p11 := eq_true p11; replace q11 := eq_true q11; go_wp2_with (first | ((with_reducible refine gate_callee (f := 103) rfl ?_); refine gl_ 26 Try.func103 #[.int .u8 (bt a0 x3_2)] ?_; (with_reducible refine (spec_l2Letter.calls (bt a0 x3_2) false _ A12.out).mono ?_); rintro e w' ⟨rfl, ⟨nd, rfl⟩⟩; refine ⟨_, rfl, ?_⟩; have p14 : 0 ≤ (x3_2 : Int) := od_; have q14 : x3_2 < (a0.size : Int) := od_; have hx14 := bt_at a0 x3_2; replace p14 := eq_true p14; replace q14 := eq_true q14) | (go_at_call 102; (with_reducible refine (spec_l2Digit.calls (bt a0 x3_2) false _ A15.out).mono ?_); rintro e w' ⟨rfl, ⟨nd, rfl⟩⟩; have p17 : 0 ≤ (x3_2 : Int) := od_; have q17 : x3_2 < (a0.size : Int) := od_; have hx17 := bt_at a0 x3_2; replace p17 := eq_true p17; replace q17 := eq_true q17)); go_roundg k2
          case measure => have := HJ1.out; have := HK2.out; omega
          case rel => exact ⟨(wrap64 (x3_2 + 1)), rs_, H', ⟨by have := HJ1.out; have := HK2.out; omega⟩, by repeat (first | exact Drawn0.refl _ | apply Drawn0.step)⟩
         ·rw [if_neg c18] at H; have c18b0 := nb_ c18; have c18b1 := nn_ c18; obtain rfl := si_ H; have p11 : 0 ≤ (x3_2 : Int) := od_; have q11 : x3_2 < (a0.size : Int) := od_; have hx11 := bt_at a0 x3_2; replace p11 := eq_true p11; replace q11 := eq_true q11; go_wp2_with (first | ((with_reducible refine gate_callee (f := 103) rfl ?_); refine gl_ 26 Try.func103 #[.int .u8 (bt a0 x3_2)] ?_; (with_reducible refine (spec_l2Letter.calls (bt a0 x3_2) false _ A12.out).mono ?_); rintro e w' ⟨rfl, ⟨nd, rfl⟩⟩; refine ⟨_, rfl, ?_⟩; have p14 : 0 ≤ (x3_2 : Int) := od_; have q14 : x3_2 < (a0.size : Int) := od_; have hx14 := bt_at a0 x3_2; replace p14 := eq_true p14; replace q14 := eq_true q14) | (go_at_call 102; (with_reducible refine (spec_l2Digit.calls (bt a0 x3_2) false _ A15.out).mono ?_); rintro e w' ⟨rfl, ⟨nd, rfl⟩⟩; have p17 : 0 ≤ (x3_2 : Int) := od_; have q17 : x3_2 < (a0.size : Int) := od_; have hx17 := bt_at a0 x3_2; replace p17 := eq_true p17; replace q17 := eq_true q17)); go_ret; exact ⟨by first | rfl | (simp; done) | (simp [*]; done), by repeat (first | exact Drawn0.refl _ | apply Drawn0.step)⟩
      ·rw [if_neg c9] at H; have c9b0 := decide_eq_false c9; clear c9; obtain rfl := si_ H; go_wp2; go_ret; exact ⟨by first | rfl | (simp; done) | (simp [*]; done), by repeat (first | exact Drawn0.refl _ | apply Drawn0.step)⟩

/-! ### spec_l2Printed: function 104 -/
def spec_l2Printed.l0 : Nat → ByteArray → Int → Option (Bool)
 | 0, _, _ => none
 | k + 1, x0, x3 => if x3 < (x0.size : Int) then (if 0 ≤ x3 then (if (bt x0 x3) < 32 then (some false) else (if (bt x0 x3) > 126 then (some false) else (spec_l2Printed.l0 k x0 (wrap64 (x3 + 1))))) else (none)) else (some true)
def spec_l2Printed.f (k : Nat) (a0 : ByteArray) : Option (Bool) := spec_l2Printed.l0 k a0 0
theorem spec_l2Printed.mono_l : ∀ k, (∀ y0 y1, LeO (spec_l2Printed.l0 k y0 y1) (spec_l2Printed.l0 (k + 1) y0 y1))
 | 0 => fun _ _ r h => by simp [spec_l2Printed.l0] at h
 | k + 1 => by
  have ih0 := spec_l2Printed.mono_l k
  ·intro y0 y1
   unfold spec_l2Printed.l0
   repeat' with_reducible first | apply ih0 | apply LeO.refl | apply LeO.none | apply LeO.ite | refine LeO.bind ?_ (fun _ => ?_)
theorem spec_l2Printed.mono : ∀ a0 k, LeO (spec_l2Printed.f k a0) (spec_l2Printed.f (k + 1) a0) := by
 intro a0 k
 have ih0 := spec_l2Printed.mono_l k
 unfold spec_l2Printed.f
 repeat' with_reducible first | apply ih0 | apply LeO.refl | apply LeO.none | apply LeO.ite | refine LeO.bind ?_ (fun _ => ?_)
set_option maxHeartbeats 8000000 in
set_option maxRecDepth 100000 in
theorem spec_l2Printed.calls (k : Nat) (a0 : ByteArray) (r : Bool) (w : World) (h : spec_l2Printed.f k a0 = some r) :
  Calls Try.prog 104 #[.string a0] w fun e w' => e = .returned (.bool r) ∧ Drawn0 w w' := by
 have H := h; clear h; unfold spec_l2Printed.f at H; have H' := am_ H; clear H; go_enter Try.func104, Try.ntmps104; go_wp2
 go_loopg [3] k (fun kq v3 w' => ∃ (x3_1 : Int), v3 = .int .i64 x3_1 ∧ Aside0 (spec_l2Printed.l0 kq a0 x3_1 = some r) ∧ Aside0 (kq ≤ k) ∧ Drawn0 w w')
 case atStart => exact ⟨(0), rs_, H', ⟨Nat.le_refl _⟩, by repeat (first | exact Drawn0.refl _ | apply Drawn0.step)⟩
 case round =>
  clear H'; obtain ⟨x3_1, rfl, HA, HK1, ⟨m1, rfl⟩⟩ := hrel
  cases gk with
  | zero => exact absurd HA.out (by simp [spec_l2Printed.l0])
  | succ k1 =>
   have H := HA.out; clear HA; simp only [spec_l2Printed.l0] at H
   by_cases c2 : x3_1 < (a0.size : Int)
   ·rw [if_pos c2] at H; have c2b0 := decide_eq_true c2; clear c2; replace H := is_ H; obtain ⟨c3, H⟩ := H; have c3b0 := decide_eq_true c3; clear c3
    by_cases c5 : (bt a0 x3_1) < 32
    ·rw [if_pos c5] at H; have c5b0 := decide_eq_true c5; clear c5; obtain rfl := si_ H; have p4 : 0 ≤ (x3_1 : Int) := od_; have q4 : x3_1 < (a0.size : Int) := od_; have hx4 := bt_at a0 x3_1; replace p4 := eq_true p4; replace q4 := eq_true q4; go_wp2; go_ret; exact ⟨by first | rfl | (simp; done) | (simp [*]; done), by repeat (first | exact Drawn0.refl _ | apply Drawn0.step)⟩
    ·rw [if_neg c5] at H; have c5b0 := decide_eq_false c5; clear c5
     by_cases c7 : (bt a0 x3_1) > 126
     ·rw [if_pos c7] at H; have c7b0 := dg_ c7; clear c7; obtain rfl := si_ H; have p4 : 0 ≤ (x3_1 : Int) := od_; have q4 : x3_1 < (a0.size : Int) := od_; have hx4 := bt_at a0 x3_1; replace p4 := eq_true p4; replace q4 := eq_true q4; have p6 : 0 ≤ (x3_1 : Int) := od_; have q6 : x3_1 < (a0.size : Int) := od_; have hx6 := bt_at a0 x3_1; replace p6 := eq_true p6; replace q6 := eq_true q6; go_wp2; go_ret; exact ⟨by first | rfl | (simp; done) | (simp [*]; done), by repeat (first | exact Drawn0.refl _ | apply Drawn0.step)⟩
     ·rw [if_neg c7] at H; have c7b0 := df_ c7; clear c7; have H' := am_ H; clear H; have p4 : 0 ≤ (x3_1 : Int) := od_; have q4 : x3_1 < (a0.size : Int) := od_; have hx4 := bt_at a0 x3_1; replace p4 := eq_true p4; replace q4 := eq_true q4; have p6 : 0 ≤ (x3_1 : Int) := od_; have q6 : x3_1 < (a0.size : Int) := od_; have hx6 := bt_at a0 x3_1; replace p6 := eq_true p6; replace q6 := eq_true q6; go_wp2; go_roundg k1
      case measure => have := HK1.out; omega
      case rel => exact ⟨(wrap64 (x3_1 + 1)), rs_, H', ⟨by have := HK1.out; omega⟩, by repeat (first | exact Drawn0.refl _ | apply Drawn0.step)⟩
   ·rw [if_neg c2] at H; have c2b0 := decide_eq_false c2; clear c2; obtain rfl := si_ H; go_wp2; go_ret; exact ⟨by first | rfl | (simp; done) | (simp [*]; done), by repeat (first | exact Drawn0.refl _ | apply Drawn0.step)⟩

/-! ### spec_l2Value: function 90 -/
def spec_l2Value.f (k : Nat) (a0 : ByteArray) : Option (Bool) := if (a0.size : Int) ≥ 1 then (if (a0.size : Int) ≤ 100 then ((spec_l2Printed.f k a0).bind fun t1001 => (some t1001)) else (some false)) else (some false)
theorem spec_l2Value.mono : ∀ a0 k, LeO (spec_l2Value.f k a0) (spec_l2Value.f (k + 1) a0) := by
 intro a0 k
 unfold spec_l2Value.f
 repeat' with_reducible first | apply spec_l2Printed.mono | apply LeO.refl | apply LeO.none | apply LeO.ite | refine LeO.bind ?_ (fun _ => ?_)
set_option maxHeartbeats 8000000 in
set_option maxRecDepth 100000 in
theorem spec_l2Value.calls (k : Nat) (a0 : ByteArray) (r : Bool) (w : World) (h : spec_l2Value.f k a0 = some r) :
  Calls Try.prog 90 #[.string a0] w fun e w' => e = .returned (.bool r) ∧ Drawn0 w w' := by
 have H := h; clear h; unfold spec_l2Value.f at H
 by_cases c2 : (a0.size : Int) ≥ 1
 ·rw [if_pos c2] at H; have c2b0 : decide (1 ≤ (a0.size : Int)) = true := decide_eq_true c2; have c2b1 : decide (1 ≤ a0.size) = true := decide_eq_true (by omega); clear c2
  by_cases c3 : (a0.size : Int) ≤ 100
  ·rw [if_pos c3] at H; have c3b0 := decide_eq_true c3; have c3b1 : decide (a0.size ≤ 100) = true := decide_eq_true (by omega); clear c3; replace H := bs_ H; obtain ⟨t1001, A4, H⟩ := H; obtain rfl := si_ H; go_enter Try.func90, Try.ntmps90; go_wp2_with (first | (go_at_call 104; (with_reducible refine (spec_l2Printed.calls k a0 t1001 _ A4.out).mono ?_); rintro e w' ⟨rfl, ⟨nd, rfl⟩⟩)); go_ret; exact ⟨by first | rfl | (simp; done) | (simp [*]; done), by repeat (first | exact Drawn0.refl _ | apply Drawn0.step)⟩
  ·rw [if_neg c3] at H; have c3b0 := decide_eq_false c3; have c3b1 : decide (a0.size ≤ 100) = false := decide_eq_false (by omega); clear c3; obtain rfl := si_ H; go_enter Try.func90, Try.ntmps90; go_wp2; go_ret; exact ⟨by first | rfl | (simp; done) | (simp [*]; done), by repeat (first | exact Drawn0.refl _ | apply Drawn0.step)⟩
 ·rw [if_neg c2] at H; have c2b0 : decide (1 ≤ (a0.size : Int)) = false := decide_eq_false c2; have c2b1 : decide (1 ≤ a0.size) = false := decide_eq_false (by omega); clear c2; obtain rfl := si_ H; go_enter Try.func90, Try.ntmps90; go_wp2; go_ret; exact ⟨by first | rfl | (simp; done) | (simp [*]; done), by repeat (first | exact Drawn0.refl _ | apply Drawn0.step)⟩

/-! ### spec_GoodLabels: function 61 -/
def spec_GoodLabels.l0 : Nat → List (S60) → List (S60) → Int → Int → Option (Bool)
 | 0, _, _, _, _ => none
 | k + 1, x0, x8, x9, x10 => if x10 < x9 then (if 0 ≤ x10 then (if x10 < (x8.length : Int) then ((spec_l2Name.f k ((rd_T60 x8 x10).f0)).bind fun t1003 => (if t1003 = true then ((spec_l2Value.f k ((rd_T60 x8 x10).f1)).bind fun t1004 => (if t1004 = true then (if x10 > 0 then (if 0 ≤ (wrap64 (x10 - 1)) then (if (wrap64 (x10 - 1)) < (x0.length : Int) then ((spec_l2CmpText.f k ((rd_T60 x0 (wrap64 (x10 - 1))).f0) ((rd_T60 x8 x10).f0)).bind fun t1006 => (if t1006 ≥ 0 then (some false) else (spec_GoodLabels.l0 k x0 x8 x9 (wrap64 (x10 + 1))))) else (none)) else (none)) else (spec_GoodLabels.l0 k x0 x8 x9 (wrap64 (x10 + 1)))) else (some false))) else (some false))) else (none)) else (none)) else (some true)
def spec_GoodLabels.f (k : Nat) (l0 : List (S60)) : Option (Bool) := if (l0.length : Int) > 20 then (some false) else (spec_GoodLabels.l0 k l0 l0 (l0.length : Int) 0)
theorem spec_GoodLabels.mono_l : ∀ k, (∀ y0 y1 y2 y3, LeO (spec_GoodLabels.l0 k y0 y1 y2 y3) (spec_GoodLabels.l0 (k + 1) y0 y1 y2 y3))
 | 0 => fun _ _ _ _ r h => by simp [spec_GoodLabels.l0] at h
 | k + 1 => by
  have ih0 := spec_GoodLabels.mono_l k
  ·intro y0 y1 y2 y3
   unfold spec_GoodLabels.l0
   repeat' with_reducible first | apply ih0 | apply spec_l2CmpText.mono | apply spec_l2Name.mono | apply spec_l2Value.mono | apply LeO.refl | apply LeO.none | apply LeO.ite | refine LeO.bind ?_ (fun _ => ?_)
theorem spec_GoodLabels.mono : ∀ a0 k, LeO (spec_GoodLabels.f k a0) (spec_GoodLabels.f (k + 1) a0) := by
 intro a0 k
 have ih0 := spec_GoodLabels.mono_l k
 unfold spec_GoodLabels.f
 repeat' with_reducible first | apply ih0 | apply spec_l2CmpText.mono | apply spec_l2Name.mono | apply spec_l2Value.mono | apply LeO.refl | apply LeO.none | apply LeO.ite | refine LeO.bind ?_ (fun _ => ?_)
set_option maxHeartbeats 8000000 in
set_option maxRecDepth 100000 in
theorem spec_GoodLabels.calls (k : Nat) (A0 : Option Addr) (c0 : Nat) (l0 : List (S60)) (r : Bool) (w : World) (hr0 : Kd.C k60 w A0 l0.length l0) (hc0 : l0.length ≤ c0) (h : spec_GoodLabels.f k l0 = some r) :
  Calls Try.prog 61 #[.slice A0 l0.length c0] w fun e w' => e = .returned (.bool r) ∧ Below w.heap.size w w' := by
 have hu60 := Try.underlying60; have HR0 := am_ hr0; have HC0 := am_ hc0; clear hr0 hc0; have HB := am_ (Below.refl w.heap.size w); have H := h; clear h; unfold spec_GoodLabels.f at H
 by_cases c2 : (l0.length : Int) > 20
 ·rw [if_pos c2] at H; have c2b0 := dg_ c2; have c2b1 : decide (20 < l0.length) = true := decide_eq_true (by omega); clear c2; obtain rfl := si_ H; go_enter Try.func61, Try.ntmps61; go_wp2; go_ret; exact ⟨rf_, bl_⟩
 ·rw [if_neg c2] at H; have c2b0 := df_ c2; have c2b1 : decide (20 < l0.length) = false := decide_eq_false (by omega); clear c2; have H' := am_ H; clear H; go_enter Try.func61, Try.ntmps61; go_wp2
  go_loopg [10] k (fun kq v10 w' => ∃ (x10_1 : Int), v10 = .int .i64 x10_1 ∧ Aside0 (spec_GoodLabels.l0 kq l0 l0 (l0.length : Int) x10_1 = some r) ∧ Aside0 (kq ≤ k) ∧ Aside0 (Below w.heap.size w w'))
  case atStart => exact ⟨(0), rs_, H', ⟨Nat.le_refl _⟩, ⟨bl_⟩⟩
  case round =>
   clear H'; (try clear c2); (try clear c2b0); (try clear c2b1); obtain ⟨x10_1, rfl, HA, HK1, HB⟩ := hrel
   cases gk with
   | zero => exact absurd HA.out (by simp [spec_GoodLabels.l0])
   | succ k1 =>
    have H := HA.out; clear HA; simp only [spec_GoodLabels.l0] at H
    by_cases c3 : x10_1 < (l0.length : Int)
    ·rw [if_pos c3] at H; have c3b0 := decide_eq_true c3; clear c3; replace H := is_ H; obtain ⟨c4, H⟩ := H; have c4b0 := decide_eq_true c4; clear c4; replace H := is_ H; obtain ⟨c5, H⟩ := H; have c5b0 := decide_eq_true c5; clear c5; replace H := bs_ H; obtain ⟨t1003, A6, H⟩ := H
     by_cases c7 : t1003 = true
     ·subst c7; replace H := it_ H; replace H := bs_ H; obtain ⟨t1004, A8, H⟩ := H
      by_cases c9 : t1004 = true
      ·subst c9; replace H := it_ H
       by_cases c10 : x10_1 > 0
       ·rw [if_pos c10] at H; have c10b0 := dg_ c10; clear c10; obtain ⟨ji11, hji11⟩ : ∃ j_ : Int, (wrap64 (x10_1 - 1)) = j_ := ⟨_, rfl⟩; replace H : (if 0 ≤ (ji11) then (if (ji11) < (l0.length : Int) then ((spec_l2CmpText.f k1 ((rd_T60 l0 (ji11)).f0) ((rd_T60 l0 x10_1).f0)).bind fun t1006 => (if t1006 ≥ 0 then (some false) else (spec_GoodLabels.l0 k1 l0 l0 (l0.length : Int) (wrap64 (x10_1 + 1))))) else (none)) else (none)) = some r := by first | (rw [hji11] at H; exact H) | (simp only [hji11] at H ⊢; exact H)
        (try rw [hji11] at A6); (try rw [hji11] at A8); have hji11w : (IntKind.i64.wrap (x10_1 - 1)) = ji11 := (i64_w _).trans hji11; replace H := is_ H; obtain ⟨c12, H⟩ := H; have c12b0 := decide_eq_true c12; clear c12; replace H := is_ H; obtain ⟨c13, H⟩ := H; have c13b0 := decide_eq_true c13; clear c13; replace H := bs_ H; obtain ⟨t1006, A14, H⟩ := H
        by_cases c15 : t1006 ≥ 0
        ·rw [if_pos c15] at H; have c15b0 : decide (0 ≤ t1006) = true := decide_eq_true c15; clear c15; obtain rfl := si_ H; have p1001 : 0 ≤ (x10_1 : Int) := od_; have q1001 : x10_1 < (l0.length : Int) := od_; obtain ⟨ad1001, e1001, hx1001_0, hx1001_1⟩ := at_T60 HR0.out x10_1 p1001 q1001
         cases e1001
         replace hx1001_0 := kp_ HB hx1001_0; replace hx1001_1 := kp_ HB hx1001_1; replace p1001 := eq_true p1001; replace q1001 := eq_true q1001; go_wp2_with (first | ((with_reducible refine gate_dst (N := 4) rfl ?_); refine bx_ 4 #[.string (⟨#[]⟩ : ByteArray), .string (⟨#[]⟩ : ByteArray)] 60 ?_; intro gb1002 hg w16 hbox hb; have BK1002 := am_ (hbox); have GW1002 := am_ (gs_ hg : w.heap.size ≤ gb1002); replace HB := am_ (below_step bl_ hb); have GE1002 := GW1002; clear hb hbox hg; have hz17 := bk2_ BK1002)); (repeat (go_quiet (first | (go_at_call 89; (with_reducible refine (spec_l2Name.calls k1 ((rd_T60 l0 x10_1).f0) true _ A6.out).mono ?_); rintro e w' ⟨rfl, ⟨nd, rfl⟩⟩; (try exact dd_)) | (go_at_call 90; (with_reducible refine (spec_l2Value.calls k1 ((rd_T60 l0 x10_1).f1) true _ A8.out).mono ?_); rintro e w' ⟨rfl, ⟨nd, rfl⟩⟩; (try exact dd_); have p1005 : 0 ≤ ((ji11) : Int) := od_; have q1005 : (ji11) < (l0.length : Int) := od_; obtain ⟨ad1005, e1005, hx1005_0, hx1005_1⟩ := at_T60 HR0.out (ji11) p1005 q1005; obtain rfl : ad1001 = ad1005 := (by injection e1005); have hn1005_0 : ad1001.block ≠ gb1002 := hb_ hx1005_0 GW1002; have hn1005_1 : ad1001.block ≠ gb1002 := hb_ hx1005_0 GW1002; replace hx1005_0 := kp_ HB hx1005_0; replace hx1005_1 := kp_ HB hx1005_1; replace hx1005_0 := cf_ gb1002 0 hn1005_0 (.string ((rd_T60 l0 x10_1).f0)) hx1005_0; replace hx1005_1 := cf_ gb1002 0 hn1005_0 (.string ((rd_T60 l0 x10_1).f0)) hx1005_1; replace hx1005_0 := cf_ gb1002 1 hn1005_1 (.string ((rd_T60 l0 x10_1).f1)) hx1005_0; replace hx1005_1 := cf_ gb1002 1 hn1005_1 (.string ((rd_T60 l0 x10_1).f1)) hx1005_1; (try have hy1005_0 := fun (n_ : Nat) => (show ((((w16.drewN n_).setCell ⟨gb1002, 0, none⟩ (.string ((rd_T60 l0 x10_1).f0))).setCell ⟨gb1002, 1, none⟩ (.string ((rd_T60 l0 x10_1).f1)))).cell? _ = some _ from hx1005_0)); (try have hy1005_1 := fun (n_ : Nat) => (show ((((w16.drewN n_).setCell ⟨gb1002, 0, none⟩ (.string ((rd_T60 l0 x10_1).f0))).setCell ⟨gb1002, 1, none⟩ (.string ((rd_T60 l0 x10_1).f1)))).cell? _ = some _ from hx1005_1)); clear hn1005_0; clear hn1005_1; replace p1005 := eq_true p1005; replace q1005 := eq_true q1005) | (go_at_call 39; (with_reducible refine (spec_l2CmpText.calls k1 ((rd_T60 l0 (ji11)).f0) ((rd_T60 l0 x10_1).f0) t1006 _ A14.out).mono ?_); rintro e w' ⟨rfl, ⟨nd, rfl⟩⟩; (try exact dd_))); try go_wp2)); go_ret; exact ⟨by first | rfl | (simp [errW_none, errW_some] <;> rfl) | (simp only [← hji11]; first | rfl | (simp [errW_none, errW_some] <;> rfl)) | (simp [*, errW_none, errW_some] <;> rfl) | (simp [*, Go.Proofs.Ythkhflhmnjgbnaa.Gt.nil_bne]; done), bg_⟩
        ·rw [if_neg c15] at H; have c15b0 : decide (0 ≤ t1006) = false := decide_eq_false c15; clear c15; have H' := am_ H; clear H; have p1001 : 0 ≤ (x10_1 : Int) := od_; have q1001 : x10_1 < (l0.length : Int) := od_; obtain ⟨ad1001, e1001, hx1001_0, hx1001_1⟩ := at_T60 HR0.out x10_1 p1001 q1001
         cases e1001
         replace hx1001_0 := kp_ HB hx1001_0; replace hx1001_1 := kp_ HB hx1001_1; replace p1001 := eq_true p1001; replace q1001 := eq_true q1001; go_wp2_with (first | ((with_reducible refine gate_dst (N := 4) rfl ?_); refine bx_ 4 #[.string (⟨#[]⟩ : ByteArray), .string (⟨#[]⟩ : ByteArray)] 60 ?_; intro gb1002 hg w18 hbox hb; have BK1002 := am_ (hbox); have GW1002 := am_ (gs_ hg : w.heap.size ≤ gb1002); replace HB := am_ (below_step bl_ hb); have GE1002 := GW1002; clear hb hbox hg; have hz19 := bk2_ BK1002)); (repeat (go_quiet (first | (go_at_call 89; (with_reducible refine (spec_l2Name.calls k1 ((rd_T60 l0 x10_1).f0) true _ A6.out).mono ?_); rintro e w' ⟨rfl, ⟨nd, rfl⟩⟩; (try exact dd_)) | (go_at_call 90; (with_reducible refine (spec_l2Value.calls k1 ((rd_T60 l0 x10_1).f1) true _ A8.out).mono ?_); rintro e w' ⟨rfl, ⟨nd, rfl⟩⟩; (try exact dd_); have p1005 : 0 ≤ ((ji11) : Int) := od_; have q1005 : (ji11) < (l0.length : Int) := od_; obtain ⟨ad1005, e1005, hx1005_0, hx1005_1⟩ := at_T60 HR0.out (ji11) p1005 q1005; obtain rfl : ad1001 = ad1005 := (by injection e1005); have hn1005_0 : ad1001.block ≠ gb1002 := hb_ hx1005_0 GW1002; have hn1005_1 : ad1001.block ≠ gb1002 := hb_ hx1005_0 GW1002; replace hx1005_0 := kp_ HB hx1005_0; replace hx1005_1 := kp_ HB hx1005_1; replace hx1005_0 := cf_ gb1002 0 hn1005_0 (.string ((rd_T60 l0 x10_1).f0)) hx1005_0; replace hx1005_1 := cf_ gb1002 0 hn1005_0 (.string ((rd_T60 l0 x10_1).f0)) hx1005_1; replace hx1005_0 := cf_ gb1002 1 hn1005_1 (.string ((rd_T60 l0 x10_1).f1)) hx1005_0; replace hx1005_1 := cf_ gb1002 1 hn1005_1 (.string ((rd_T60 l0 x10_1).f1)) hx1005_1; (try have hy1005_0 := fun (n_ : Nat) => (show ((((w18.drewN n_).setCell ⟨gb1002, 0, none⟩ (.string ((rd_T60 l0 x10_1).f0))).setCell ⟨gb1002, 1, none⟩ (.string ((rd_T60 l0 x10_1).f1)))).cell? _ = some _ from hx1005_0)); (try have hy1005_1 := fun (n_ : Nat) => (show ((((w18.drewN n_).setCell ⟨gb1002, 0, none⟩ (.string ((rd_T60 l0 x10_1).f0))).setCell ⟨gb1002, 1, none⟩ (.string ((rd_T60 l0 x10_1).f1)))).cell? _ = some _ from hx1005_1)); clear hn1005_0; clear hn1005_1; replace p1005 := eq_true p1005; replace q1005 := eq_true q1005) | (go_at_call 39; (with_reducible refine (spec_l2CmpText.calls k1 ((rd_T60 l0 (ji11)).f0) ((rd_T60 l0 x10_1).f0) t1006 _ A14.out).mono ?_); rintro e w' ⟨rfl, ⟨nd, rfl⟩⟩; (try exact dd_))); try go_wp2)); go_roundg k1
         case measure => have := HK1.out; omega
         case rel => exact ⟨(wrap64 (x10_1 + 1)), rs_, H', ⟨by have := HK1.out; omega⟩, ⟨bg_⟩⟩
       ·rw [if_neg c10] at H; have c10b0 := df_ c10; clear c10; have H' := am_ H; clear H; have p1001 : 0 ≤ (x10_1 : Int) := od_; have q1001 : x10_1 < (l0.length : Int) := od_; obtain ⟨ad1001, e1001, hx1001_0, hx1001_1⟩ := at_T60 HR0.out x10_1 p1001 q1001
        cases e1001
        replace hx1001_0 := kp_ HB hx1001_0; replace hx1001_1 := kp_ HB hx1001_1; replace p1001 := eq_true p1001; replace q1001 := eq_true q1001; go_wp2_with (first | ((with_reducible refine gate_dst (N := 4) rfl ?_); refine bx_ 4 #[.string (⟨#[]⟩ : ByteArray), .string (⟨#[]⟩ : ByteArray)] 60 ?_; intro gb1002 hg w20 hbox hb; have BK1002 := am_ (hbox); have GW1002 := am_ (gs_ hg : w.heap.size ≤ gb1002); replace HB := am_ (below_step bl_ hb); have GE1002 := GW1002; clear hb hbox hg; have hz21 := bk2_ BK1002)); (repeat (go_quiet (first | (go_at_call 89; (with_reducible refine (spec_l2Name.calls k1 ((rd_T60 l0 x10_1).f0) true _ A6.out).mono ?_); rintro e w' ⟨rfl, ⟨nd, rfl⟩⟩; (try exact dd_)) | (go_at_call 90; (with_reducible refine (spec_l2Value.calls k1 ((rd_T60 l0 x10_1).f1) true _ A8.out).mono ?_); rintro e w' ⟨rfl, ⟨nd, rfl⟩⟩; (try exact dd_))); try go_wp2)); go_roundg k1
        case measure => have := HK1.out; omega
        case rel => exact ⟨(wrap64 (x10_1 + 1)), rs_, H', ⟨by have := HK1.out; omega⟩, ⟨bg_⟩⟩
      ·replace c9 := Bool.eq_false_iff.mpr c9; subst c9; replace H := if_ H; obtain rfl := si_ H; have p1001 : 0 ≤ (x10_1 : Int) := od_; have q1001 : x10_1 < (l0.length : Int) := od_; obtain ⟨ad1001, e1001, hx1001_0, hx1001_1⟩ := at_T60 HR0.out x10_1 p1001 q1001
       cases e1001
       replace hx1001_0 := kp_ HB hx1001_0; replace hx1001_1 := kp_ HB hx1001_1; replace p1001 := eq_true p1001; replace q1001 := eq_true q1001; go_wp2_with (first | ((with_reducible refine gate_dst (N := 4) rfl ?_); refine bx_ 4 #[.string (⟨#[]⟩ : ByteArray), .string (⟨#[]⟩ : ByteArray)] 60 ?_; intro gb1002 hg w22 hbox hb; have BK1002 := am_ (hbox); have GW1002 := am_ (gs_ hg : w.heap.size ≤ gb1002); replace HB := am_ (below_step bl_ hb); have GE1002 := GW1002; clear hb hbox hg; have hz23 := bk2_ BK1002)); (repeat (go_quiet (first | (go_at_call 89; (with_reducible refine (spec_l2Name.calls k1 ((rd_T60 l0 x10_1).f0) true _ A6.out).mono ?_); rintro e w' ⟨rfl, ⟨nd, rfl⟩⟩; (try exact dd_)) | (go_at_call 90; (with_reducible refine (spec_l2Value.calls k1 ((rd_T60 l0 x10_1).f1) false _ A8.out).mono ?_); rintro e w' ⟨rfl, ⟨nd, rfl⟩⟩; (try exact dd_))); try go_wp2)); go_ret; exact ⟨rf_, bg_⟩
     ·replace c7 := Bool.eq_false_iff.mpr c7; subst c7; replace H := if_ H; obtain rfl := si_ H; have p1001 : 0 ≤ (x10_1 : Int) := od_; have q1001 : x10_1 < (l0.length : Int) := od_; obtain ⟨ad1001, e1001, hx1001_0, hx1001_1⟩ := at_T60 HR0.out x10_1 p1001 q1001
      cases e1001
      replace hx1001_0 := kp_ HB hx1001_0; replace hx1001_1 := kp_ HB hx1001_1; replace p1001 := eq_true p1001; replace q1001 := eq_true q1001; go_wp2_with (first | ((with_reducible refine gate_dst (N := 4) rfl ?_); refine bx_ 4 #[.string (⟨#[]⟩ : ByteArray), .string (⟨#[]⟩ : ByteArray)] 60 ?_; intro gb1002 hg w24 hbox hb; have BK1002 := am_ (hbox); have GW1002 := am_ (gs_ hg : w.heap.size ≤ gb1002); replace HB := am_ (below_step bl_ hb); have GE1002 := GW1002; clear hb hbox hg; have hz25 := bk2_ BK1002)); (repeat (go_quiet (first | (go_at_call 89; (with_reducible refine (spec_l2Name.calls k1 ((rd_T60 l0 x10_1).f0) false _ A6.out).mono ?_); rintro e w' ⟨rfl, ⟨nd, rfl⟩⟩; (try exact dd_))); try go_wp2)); go_ret; exact ⟨rf_, bg_⟩
    ·rw [if_neg c3] at H; have c3b0 := decide_eq_false c3; clear c3; obtain rfl := si_ H; go_wp2; go_ret; exact ⟨rf_, bl_⟩

/-! ### spec_l7Named: function 36 -/
def spec_l7Named.f (k : Nat) (l0 : List (S60)) : Option (Bool) := (spec_GoodLabels.f k l0).bind fun t1001 => (if t1001 = true then ((spec_l2Of.f k l0 (⟨#[95, 110, 97, 109, 101]⟩ : ByteArray)).bind fun t1002 => (some (t1002.toList != ([] : List UInt8)))) else (some false))
theorem spec_l7Named.mono : ∀ a0 k, LeO (spec_l7Named.f k a0) (spec_l7Named.f (k + 1) a0) := by
 intro a0 k
 unfold spec_l7Named.f
 repeat' with_reducible first | apply spec_GoodLabels.mono | apply spec_l2Of.mono | apply LeO.refl | apply LeO.none | apply LeO.ite | refine LeO.bind ?_ (fun _ => ?_)
set_option maxHeartbeats 8000000 in
set_option maxRecDepth 100000 in
theorem spec_l7Named.calls (k : Nat) (A0 : Option Addr) (c0 : Nat) (l0 : List (S60)) (r : Bool) (w : World) (hr0 : Kd.C k60 w A0 l0.length l0) (hc0 : l0.length ≤ c0) (h : spec_l7Named.f k l0 = some r) :
  Calls Try.prog 36 #[.slice A0 l0.length c0] w fun e w' => e = .returned (.bool r) ∧ Below w.heap.size w w' := by
 have HR0 := am_ hr0; have HC0 := am_ hc0; clear hr0 hc0; have HB := am_ (Below.refl w.heap.size w); have H := h; clear h; unfold spec_l7Named.f at H; replace H := bs_ H; obtain ⟨t1001, A2, H⟩ := H
 by_cases c3 : t1001 = true
 ·subst c3; replace H := it_ H; replace H := bs_ H; obtain ⟨t1002, A4, H⟩ := H; obtain rfl := si_ H; go_enter Try.func36, Try.ntmps36; go_wp2_with (first | ((with_reducible refine gate_callee (f := 61) rfl ?_); refine gl_ 4 Try.func61 #[.slice A0 l0.length c0] ?_; (with_reducible refine (spec_GoodLabels.calls k _ _ l0 true _ ?side1 ?side2 A2.out).mono ?_); (case side1 => repeat (first | exact HR0.out | (with_reducible refine Kd.C_alloc ?_ _) | (with_reducible refine Kd.C_drewN ?_ _) | (with_reducible refine Kd.C_drew ?_))); (case side2 => exact HC0.out); rintro e w5 ⟨rfl, hb⟩; refine ⟨_, rfl, ?_⟩; replace HB := am_ (below_step bl_ hb); (try clear hb)) | (go_at_call 19; (with_reducible refine (spec_l2Of.calls k _ _ l0 (⟨#[95, 110, 97, 109, 101]⟩ : ByteArray) t1002 _ ?side1 ?side2 A4.out).mono ?_); (case side1 => exact cc_ (Kd.C_below HR0.out HB.out)); (case side2 => exact HC0.out); rintro e w6 ⟨rfl, hb⟩; replace HB := am_ (below_step bl_ hb); (try clear hb))); go_ret; exact ⟨rf_, bl_⟩
 ·replace c3 := Bool.eq_false_iff.mpr c3; subst c3; replace H := if_ H; obtain rfl := si_ H; go_enter Try.func36, Try.ntmps36; go_wp2_with (first | ((with_reducible refine gate_callee (f := 61) rfl ?_); refine gl_ 4 Try.func61 #[.slice A0 l0.length c0] ?_; (with_reducible refine (spec_GoodLabels.calls k _ _ l0 false _ ?side1 ?side2 A2.out).mono ?_); (case side1 => repeat (first | exact HR0.out | (with_reducible refine Kd.C_alloc ?_ _) | (with_reducible refine Kd.C_drewN ?_ _) | (with_reducible refine Kd.C_drew ?_))); (case side2 => exact HC0.out); rintro e w7 ⟨rfl, hb⟩; refine ⟨_, rfl, ?_⟩; replace HB := am_ (below_step bl_ hb); (try clear hb))); go_ret; exact ⟨rf_, bl_⟩

/-! ### spec_l3Time: function 62 -/
def spec_l3Time.f (a0 : Int) : Option (Bool) := if a0 ≥ 0 then (some (decide (a0 ≤ 1000000000000))) else (some false)
set_option maxHeartbeats 8000000 in
set_option maxRecDepth 100000 in
theorem spec_l3Time.calls (a0 : Int) (r : Bool) (w : World) (h : spec_l3Time.f a0 = some r) :
  Calls Try.prog 62 #[.int .i64 a0] w fun e w' => e = .returned (.bool r) ∧ Drawn0 w w' := by
 have H := h; clear h; unfold spec_l3Time.f at H
 by_cases c2 : a0 ≥ 0
 ·rw [if_pos c2] at H; have c2b0 : decide (0 ≤ a0) = true := decide_eq_true c2; clear c2; obtain rfl := si_ H; go_enter Try.func62, Try.ntmps62; go_wp2; go_ret; exact ⟨by first | rfl | (simp; done) | (simp [*]; done), by repeat (first | exact Drawn0.refl _ | apply Drawn0.step)⟩
 ·rw [if_neg c2] at H; have c2b0 : decide (0 ≤ a0) = false := decide_eq_false c2; clear c2; obtain rfl := si_ H; go_enter Try.func62, Try.ntmps62; go_wp2; go_ret; exact ⟨by first | rfl | (simp; done) | (simp [*]; done), by repeat (first | exact Drawn0.refl _ | apply Drawn0.step)⟩

/-! ### spec_GoodSamples: function 37 -/
def spec_GoodSamples.l0 : Nat → List (S70) → List (S70) → Int → Int → Option (Bool)
 | 0, _, _, _, _ => none
 | k + 1, x0, x5, x6, x7 => if x7 < x6 then (if 0 ≤ x7 then (if x7 < (x5.length : Int) then ((spec_l3Time.f ((rd_T70 x5 x7).f0)).bind fun t1003 => (if t1003 = true then (if x7 > 0 then (if 0 ≤ (wrap64 (x7 - 1)) then (if (wrap64 (x7 - 1)) < (x0.length : Int) then (if ((rd_T70 x0 (wrap64 (x7 - 1))).f0) ≥ ((rd_T70 x5 x7).f0) then (some false) else (spec_GoodSamples.l0 k x0 x5 x6 (wrap64 (x7 + 1)))) else (none)) else (none)) else (spec_GoodSamples.l0 k x0 x5 x6 (wrap64 (x7 + 1)))) else (some false))) else (none)) else (none)) else (some (decide ((x0.length : Int) ≤ 2000)))
def spec_GoodSamples.f (k : Nat) (l0 : List (S70)) : Option (Bool) := spec_GoodSamples.l0 k l0 l0 (l0.length : Int) 0
theorem spec_GoodSamples.mono_l : ∀ k, (∀ y0 y1 y2 y3, LeO (spec_GoodSamples.l0 k y0 y1 y2 y3) (spec_GoodSamples.l0 (k + 1) y0 y1 y2 y3))
 | 0 => fun _ _ _ _ r h => by simp [spec_GoodSamples.l0] at h
 | k + 1 => by
  have ih0 := spec_GoodSamples.mono_l k
  ·intro y0 y1 y2 y3
   unfold spec_GoodSamples.l0
   repeat' with_reducible first | apply ih0 | apply LeO.refl | apply LeO.none | apply LeO.ite | refine LeO.bind ?_ (fun _ => ?_)
theorem spec_GoodSamples.mono : ∀ a0 k, LeO (spec_GoodSamples.f k a0) (spec_GoodSamples.f (k + 1) a0) := by
 intro a0 k
 have ih0 := spec_GoodSamples.mono_l k
 unfold spec_GoodSamples.f
 repeat' with_reducible first | apply ih0 | apply LeO.refl | apply LeO.none | apply LeO.ite | refine LeO.bind ?_ (fun _ => ?_)
set_option maxHeartbeats 8000000 in
set_option maxRecDepth 100000 in
theorem spec_GoodSamples.calls (k : Nat) (A0 : Option Addr) (c0 : Nat) (l0 : List (S70)) (r : Bool) (w : World) (hr0 : Kd.C k70 w A0 l0.length l0) (hc0 : l0.length ≤ c0) (h : spec_GoodSamples.f k l0 = some r) :
  Calls Try.prog 37 #[.slice A0 l0.length c0] w fun e w' => e = .returned (.bool r) ∧ Below w.heap.size w w' := by
 have hu70 := Try.underlying70; have HR0 := am_ hr0; have HC0 := am_ hc0; clear hr0 hc0; have HB := am_ (Below.refl w.heap.size w); have H := h; clear h; unfold spec_GoodSamples.f at H; have H' := am_ H; clear H; go_enter Try.func37, Try.ntmps37; go_wp2; (repeat (go_quiet (fail); try go_wp2))
 go_loopg [7] k (fun kq v7 w' => ∃ (x7_1 : Int), v7 = .int .i64 x7_1 ∧ Aside0 (spec_GoodSamples.l0 kq l0 l0 (l0.length : Int) x7_1 = some r) ∧ Aside0 (kq ≤ k) ∧ Aside0 (Below w.heap.size w w'))
 case atStart => exact ⟨(0), rs_, H', ⟨Nat.le_refl _⟩, ⟨bl_⟩⟩
 case round =>
  clear H'; obtain ⟨x7_1, rfl, HA, HK1, HB⟩ := hrel
  cases gk with
  | zero => exact absurd HA.out (by simp [spec_GoodSamples.l0])
  | succ k1 =>
   have H := HA.out; clear HA; simp only [spec_GoodSamples.l0] at H
   by_cases c2 : x7_1 < (l0.length : Int)
   ·rw [if_pos c2] at H; have c2b0 := decide_eq_true c2; clear c2; replace H := is_ H; obtain ⟨c3, H⟩ := H; have c3b0 := decide_eq_true c3; clear c3; replace H := is_ H; obtain ⟨c4, H⟩ := H; have c4b0 := decide_eq_true c4; clear c4; replace H := bs_ H; obtain ⟨t1003, A5, H⟩ := H
    by_cases c6 : t1003 = true
    ·subst c6; replace H := it_ H
     by_cases c7 : x7_1 > 0
     ·rw [if_pos c7] at H; have c7b0 := dg_ c7; clear c7; obtain ⟨ji8, hji8⟩ : ∃ j_ : Int, (wrap64 (x7_1 - 1)) = j_ := ⟨_, rfl⟩; replace H : (if 0 ≤ (ji8) then (if (ji8) < (l0.length : Int) then (if ((rd_T70 l0 (ji8)).f0) ≥ ((rd_T70 l0 x7_1).f0) then (some false) else (spec_GoodSamples.l0 k1 l0 l0 (l0.length : Int) (wrap64 (x7_1 + 1)))) else (none)) else (none)) = some r := by first | (rw [hji8] at H; exact H) | (simp only [hji8] at H ⊢; exact H)
      (try rw [hji8] at A5); have hji8w : (IntKind.i64.wrap (x7_1 - 1)) = ji8 := (i64_w _).trans hji8; replace H := is_ H; obtain ⟨c9, H⟩ := H; have c9b0 := decide_eq_true c9; clear c9; replace H := is_ H; obtain ⟨c10, H⟩ := H; have c10b0 := decide_eq_true c10; clear c10
      by_cases c11 : ((rd_T70 l0 (ji8)).f0) ≥ ((rd_T70 l0 x7_1).f0)
      ·rw [if_pos c11] at H; have c11b0 : decide (((rd_T70 l0 x7_1).f0) ≤ ((rd_T70 l0 (ji8)).f0)) = true := decide_eq_true c11; clear c11; obtain rfl := si_ H; have p1001 : 0 ≤ (x7_1 : Int) := od_; have q1001 : x7_1 < (l0.length : Int) := od_; obtain ⟨ad1001, e1001, hx1001_0, hx1001_1⟩ := at_T70 HR0.out x7_1 p1001 q1001
       cases e1001
       replace hx1001_0 := kp_ HB hx1001_0; replace hx1001_1 := kp_ HB hx1001_1; replace p1001 := eq_true p1001; replace q1001 := eq_true q1001; go_wp2_with (first | ((with_reducible refine gate_dst (N := 4) rfl ?_); refine bx_ 4 #[.int .i64 0, .int .i64 0] 70 ?_; intro gb1002 hg w12 hbox hb; have BK1002 := am_ (hbox); have GW1002 := am_ (gs_ hg : w.heap.size ≤ gb1002); replace HB := am_ (below_step bl_ hb); have GE1002 := GW1002; clear hb hbox hg; have hz13 := bk2_ BK1002) | (go_at_call 62; (with_reducible refine (spec_l3Time.calls ((rd_T70 l0 x7_1).f0) true _ A5.out).mono ?_); rintro e w' ⟨rfl, ⟨nd, rfl⟩⟩; (try exact dd_); have p1004 : 0 ≤ ((ji8) : Int) := od_; have q1004 : (ji8) < (l0.length : Int) := od_; obtain ⟨ad1004, e1004, hx1004_0, hx1004_1⟩ := at_T70 HR0.out (ji8) p1004 q1004; obtain rfl : ad1001 = ad1004 := (by injection e1004); have hn1004_0 : ad1001.block ≠ gb1002 := hb_ hx1004_0 GW1002; have hn1004_1 : ad1001.block ≠ gb1002 := hb_ hx1004_0 GW1002; replace hx1004_0 := kp_ HB hx1004_0; replace hx1004_1 := kp_ HB hx1004_1; replace hx1004_0 := cf_ gb1002 0 hn1004_0 (.int .i64 ((rd_T70 l0 x7_1).f0)) hx1004_0; replace hx1004_1 := cf_ gb1002 0 hn1004_0 (.int .i64 ((rd_T70 l0 x7_1).f0)) hx1004_1; replace hx1004_0 := cf_ gb1002 1 hn1004_1 (.int .i64 ((rd_T70 l0 x7_1).f1)) hx1004_0; replace hx1004_1 := cf_ gb1002 1 hn1004_1 (.int .i64 ((rd_T70 l0 x7_1).f1)) hx1004_1; (try have hy1004_0 := fun (n_ : Nat) => (show ((((w12.drewN n_).setCell ⟨gb1002, 0, none⟩ (.int .i64 ((rd_T70 l0 x7_1).f0))).setCell ⟨gb1002, 1, none⟩ (.int .i64 ((rd_T70 l0 x7_1).f1)))).cell? _ = some _ from hx1004_0)); (try have hy1004_1 := fun (n_ : Nat) => (show ((((w12.drewN n_).setCell ⟨gb1002, 0, none⟩ (.int .i64 ((rd_T70 l0 x7_1).f0))).setCell ⟨gb1002, 1, none⟩ (.int .i64 ((rd_T70 l0 x7_1).f1)))).cell? _ = some _ from hx1004_1)); clear hn1004_0; clear hn1004_1; replace p1004 := eq_true p1004; replace q1004 := eq_true q1004)); (repeat (go_quiet (first | ((with_reducible refine gate_dst (N := 4) rfl ?_); refine bx_ 4 #[.int .i64 0, .int .i64 0] 70 ?_; intro gb1002 hg w12 hbox hb; have BK1002 := am_ (hbox); have GW1002 := am_ (gs_ hg : w.heap.size ≤ gb1002); replace HB := am_ (below_step bl_ hb); have GE1002 := GW1002; clear hb hbox hg; have hz13 := bk2_ BK1002) | (go_at_call 62; (with_reducible refine (spec_l3Time.calls ((rd_T70 l0 x7_1).f0) true _ A5.out).mono ?_); rintro e w' ⟨rfl, ⟨nd, rfl⟩⟩; (try exact dd_); have p1004 : 0 ≤ ((ji8) : Int) := od_; have q1004 : (ji8) < (l0.length : Int) := od_; obtain ⟨ad1004, e1004, hx1004_0, hx1004_1⟩ := at_T70 HR0.out (ji8) p1004 q1004; obtain rfl : ad1001 = ad1004 := (by injection e1004); have hn1004_0 : ad1001.block ≠ gb1002 := hb_ hx1004_0 GW1002; have hn1004_1 : ad1001.block ≠ gb1002 := hb_ hx1004_0 GW1002; replace hx1004_0 := kp_ HB hx1004_0; replace hx1004_1 := kp_ HB hx1004_1; replace hx1004_0 := cf_ gb1002 0 hn1004_0 (.int .i64 ((rd_T70 l0 x7_1).f0)) hx1004_0; replace hx1004_1 := cf_ gb1002 0 hn1004_0 (.int .i64 ((rd_T70 l0 x7_1).f0)) hx1004_1; replace hx1004_0 := cf_ gb1002 1 hn1004_1 (.int .i64 ((rd_T70 l0 x7_1).f1)) hx1004_0; replace hx1004_1 := cf_ gb1002 1 hn1004_1 (.int .i64 ((rd_T70 l0 x7_1).f1)) hx1004_1; (try have hy1004_0 := fun (n_ : Nat) => (show ((((w12.drewN n_).setCell ⟨gb1002, 0, none⟩ (.int .i64 ((rd_T70 l0 x7_1).f0))).setCell ⟨gb1002, 1, none⟩ (.int .i64 ((rd_T70 l0 x7_1).f1)))).cell? _ = some _ from hx1004_0)); (try have hy1004_1 := fun (n_ : Nat) => (show ((((w12.drewN n_).setCell ⟨gb1002, 0, none⟩ (.int .i64 ((rd_T70 l0 x7_1).f0))).setCell ⟨gb1002, 1, none⟩ (.int .i64 ((rd_T70 l0 x7_1).f1)))).cell? _ = some _ from hx1004_1)); clear hn1004_0; clear hn1004_1; replace p1004 := eq_true p1004; replace q1004 := eq_true q1004)); try go_wp2)); go_ret; exact ⟨by first | rfl | (simp [errW_none, errW_some] <;> rfl) | (simp only [← hji8]; first | rfl | (simp [errW_none, errW_some] <;> rfl)) | (simp [*, errW_none, errW_some] <;> rfl) | (simp [*, Go.Proofs.Ythkhflhmnjgbnaa.Gt.nil_bne]; done), bg_⟩
      ·rw [if_neg c11] at H; have c11b0 : decide (((rd_T70 l0 x7_1).f0) ≤ ((rd_T70 l0 (ji8)).f0)) = false := decide_eq_false c11; clear c11; have H' := am_ H; clear H; have p1001 : 0 ≤ (x7_1 : Int) := od_; have q1001 : x7_1 < (l0.length : Int) := od_; obtain ⟨ad1001, e1001, hx1001_0, hx1001_1⟩ := at_T70 HR0.out x7_1 p1001 q1001
       cases e1001
       replace hx1001_0 := kp_ HB hx1001_0; replace hx1001_1 := kp_ HB hx1001_1; replace p1001 := eq_true p1001; replace q1001 := eq_true q1001; go_wp2_with (first | ((with_reducible refine gate_dst (N := 4) rfl ?_); refine bx_ 4 #[.int .i64 0, .int .i64 0] 70 ?_; intro gb1002 hg w14 hbox hb; have BK1002 := am_ (hbox); have GW1002 := am_ (gs_ hg : w.heap.size ≤ gb1002); replace HB := am_ (below_step bl_ hb); have GE1002 := GW1002; clear hb hbox hg; have hz15 := bk2_ BK1002) | (go_at_call 62; (with_reducible refine (spec_l3Time.calls ((rd_T70 l0 x7_1).f0) true _ A5.out).mono ?_); rintro e w' ⟨rfl, ⟨nd, rfl⟩⟩; (try exact dd_); have p1004 : 0 ≤ ((ji8) : Int) := od_; have q1004 : (ji8) < (l0.length : Int) := od_; obtain ⟨ad1004, e1004, hx1004_0, hx1004_1⟩ := at_T70 HR0.out (ji8) p1004 q1004; obtain rfl : ad1001 = ad1004 := (by injection e1004); have hn1004_0 : ad1001.block ≠ gb1002 := hb_ hx1004_0 GW1002; have hn1004_1 : ad1001.block ≠ gb1002 := hb_ hx1004_0 GW1002; replace hx1004_0 := kp_ HB hx1004_0; replace hx1004_1 := kp_ HB hx1004_1; replace hx1004_0 := cf_ gb1002 0 hn1004_0 (.int .i64 ((rd_T70 l0 x7_1).f0)) hx1004_0; replace hx1004_1 := cf_ gb1002 0 hn1004_0 (.int .i64 ((rd_T70 l0 x7_1).f0)) hx1004_1; replace hx1004_0 := cf_ gb1002 1 hn1004_1 (.int .i64 ((rd_T70 l0 x7_1).f1)) hx1004_0; replace hx1004_1 := cf_ gb1002 1 hn1004_1 (.int .i64 ((rd_T70 l0 x7_1).f1)) hx1004_1; (try have hy1004_0 := fun (n_ : Nat) => (show ((((w14.drewN n_).setCell ⟨gb1002, 0, none⟩ (.int .i64 ((rd_T70 l0 x7_1).f0))).setCell ⟨gb1002, 1, none⟩ (.int .i64 ((rd_T70 l0 x7_1).f1)))).cell? _ = some _ from hx1004_0)); (try have hy1004_1 := fun (n_ : Nat) => (show ((((w14.drewN n_).setCell ⟨gb1002, 0, none⟩ (.int .i64 ((rd_T70 l0 x7_1).f0))).setCell ⟨gb1002, 1, none⟩ (.int .i64 ((rd_T70 l0 x7_1).f1)))).cell? _ = some _ from hx1004_1)); clear hn1004_0; clear hn1004_1; replace p1004 := eq_true p1004; replace q1004 := eq_true q1004)); (repeat (go_quiet (first | ((with_reducible refine gate_dst (N := 4) rfl ?_); refine bx_ 4 #[.int .i64 0, .int .i64 0] 70 ?_; intro gb1002 hg w14 hbox hb; have BK1002 := am_ (hbox); have GW1002 := am_ (gs_ hg : w.heap.size ≤ gb1002); replace HB := am_ (below_step bl_ hb); have GE1002 := GW1002; clear hb hbox hg; have hz15 := bk2_ BK1002) | (go_at_call 62; (with_reducible refine (spec_l3Time.calls ((rd_T70 l0 x7_1).f0) true _ A5.out).mono ?_); rintro e w' ⟨rfl, ⟨nd, rfl⟩⟩; (try exact dd_); have p1004 : 0 ≤ ((ji8) : Int) := od_; have q1004 : (ji8) < (l0.length : Int) := od_; obtain ⟨ad1004, e1004, hx1004_0, hx1004_1⟩ := at_T70 HR0.out (ji8) p1004 q1004; obtain rfl : ad1001 = ad1004 := (by injection e1004); have hn1004_0 : ad1001.block ≠ gb1002 := hb_ hx1004_0 GW1002; have hn1004_1 : ad1001.block ≠ gb1002 := hb_ hx1004_0 GW1002; replace hx1004_0 := kp_ HB hx1004_0; replace hx1004_1 := kp_ HB hx1004_1; replace hx1004_0 := cf_ gb1002 0 hn1004_0 (.int .i64 ((rd_T70 l0 x7_1).f0)) hx1004_0; replace hx1004_1 := cf_ gb1002 0 hn1004_0 (.int .i64 ((rd_T70 l0 x7_1).f0)) hx1004_1; replace hx1004_0 := cf_ gb1002 1 hn1004_1 (.int .i64 ((rd_T70 l0 x7_1).f1)) hx1004_0; replace hx1004_1 := cf_ gb1002 1 hn1004_1 (.int .i64 ((rd_T70 l0 x7_1).f1)) hx1004_1; (try have hy1004_0 := fun (n_ : Nat) => (show ((((w14.drewN n_).setCell ⟨gb1002, 0, none⟩ (.int .i64 ((rd_T70 l0 x7_1).f0))).setCell ⟨gb1002, 1, none⟩ (.int .i64 ((rd_T70 l0 x7_1).f1)))).cell? _ = some _ from hx1004_0)); (try have hy1004_1 := fun (n_ : Nat) => (show ((((w14.drewN n_).setCell ⟨gb1002, 0, none⟩ (.int .i64 ((rd_T70 l0 x7_1).f0))).setCell ⟨gb1002, 1, none⟩ (.int .i64 ((rd_T70 l0 x7_1).f1)))).cell? _ = some _ from hx1004_1)); clear hn1004_0; clear hn1004_1; replace p1004 := eq_true p1004; replace q1004 := eq_true q1004)); try go_wp2)); go_roundg k1
       case measure => have := HK1.out; omega
       case rel => exact ⟨(wrap64 (x7_1 + 1)), rs_, H', ⟨by have := HK1.out; omega⟩, ⟨bg_⟩⟩
     ·rw [if_neg c7] at H; have c7b0 := df_ c7; clear c7; have H' := am_ H; clear H; have p1001 : 0 ≤ (x7_1 : Int) := od_; have q1001 : x7_1 < (l0.length : Int) := od_; obtain ⟨ad1001, e1001, hx1001_0, hx1001_1⟩ := at_T70 HR0.out x7_1 p1001 q1001
      cases e1001
      replace hx1001_0 := kp_ HB hx1001_0; replace hx1001_1 := kp_ HB hx1001_1; replace p1001 := eq_true p1001; replace q1001 := eq_true q1001; go_wp2_with (first | ((with_reducible refine gate_dst (N := 4) rfl ?_); refine bx_ 4 #[.int .i64 0, .int .i64 0] 70 ?_; intro gb1002 hg w16 hbox hb; have BK1002 := am_ (hbox); have GW1002 := am_ (gs_ hg : w.heap.size ≤ gb1002); replace HB := am_ (below_step bl_ hb); have GE1002 := GW1002; clear hb hbox hg; have hz17 := bk2_ BK1002) | (go_at_call 62; (with_reducible refine (spec_l3Time.calls ((rd_T70 l0 x7_1).f0) true _ A5.out).mono ?_); rintro e w' ⟨rfl, ⟨nd, rfl⟩⟩; (try exact dd_))); (repeat (go_quiet (first | ((with_reducible refine gate_dst (N := 4) rfl ?_); refine bx_ 4 #[.int .i64 0, .int .i64 0] 70 ?_; intro gb1002 hg w16 hbox hb; have BK1002 := am_ (hbox); have GW1002 := am_ (gs_ hg : w.heap.size ≤ gb1002); replace HB := am_ (below_step bl_ hb); have GE1002 := GW1002; clear hb hbox hg; have hz17 := bk2_ BK1002) | (go_at_call 62; (with_reducible refine (spec_l3Time.calls ((rd_T70 l0 x7_1).f0) true _ A5.out).mono ?_); rintro e w' ⟨rfl, ⟨nd, rfl⟩⟩; (try exact dd_))); try go_wp2)); go_roundg k1
      case measure => have := HK1.out; omega
      case rel => exact ⟨(wrap64 (x7_1 + 1)), rs_, H', ⟨by have := HK1.out; omega⟩, ⟨bg_⟩⟩
    ·replace c6 := Bool.eq_false_iff.mpr c6; subst c6; replace H := if_ H; obtain rfl := si_ H; have p1001 : 0 ≤ (x7_1 : Int) := od_; have q1001 : x7_1 < (l0.length : Int) := od_; obtain ⟨ad1001, e1001, hx1001_0, hx1001_1⟩ := at_T70 HR0.out x7_1 p1001 q1001
     cases e1001
     replace hx1001_0 := kp_ HB hx1001_0; replace hx1001_1 := kp_ HB hx1001_1; replace p1001 := eq_true p1001; replace q1001 := eq_true q1001; go_wp2_with (first | ((with_reducible refine gate_dst (N := 4) rfl ?_); refine bx_ 4 #[.int .i64 0, .int .i64 0] 70 ?_; intro gb1002 hg w18 hbox hb; have BK1002 := am_ (hbox); have GW1002 := am_ (gs_ hg : w.heap.size ≤ gb1002); replace HB := am_ (below_step bl_ hb); have GE1002 := GW1002; clear hb hbox hg; have hz19 := bk2_ BK1002) | (go_at_call 62; (with_reducible refine (spec_l3Time.calls ((rd_T70 l0 x7_1).f0) false _ A5.out).mono ?_); rintro e w' ⟨rfl, ⟨nd, rfl⟩⟩; (try exact dd_))); (repeat (go_quiet (first | ((with_reducible refine gate_dst (N := 4) rfl ?_); refine bx_ 4 #[.int .i64 0, .int .i64 0] 70 ?_; intro gb1002 hg w18 hbox hb; have BK1002 := am_ (hbox); have GW1002 := am_ (gs_ hg : w.heap.size ≤ gb1002); replace HB := am_ (below_step bl_ hb); have GE1002 := GW1002; clear hb hbox hg; have hz19 := bk2_ BK1002) | (go_at_call 62; (with_reducible refine (spec_l3Time.calls ((rd_T70 l0 x7_1).f0) false _ A5.out).mono ?_); rintro e w' ⟨rfl, ⟨nd, rfl⟩⟩; (try exact dd_))); try go_wp2)); go_ret; exact ⟨rf_, bg_⟩
   ·rw [if_neg c2] at H; have c2b0 := decide_eq_false c2; clear c2; obtain rfl := si_ H; go_wp2; (repeat (go_quiet (fail); try go_wp2)); go_ret; exact ⟨rf_, bl_⟩

/-! ### spec_l2Cmp: function 38 -/
mutual
def spec_l2Cmp.l0 : Nat → List (S60) → List (S60) → Int → Option (Int)
 | 0, _, _, _ => none
 | k + 1, x0, x1, x5 => if x5 < (x0.length : Int) then (spec_l2Cmp.j1 k x0 x1 x5 (decide (x5 < (x1.length : Int)))) else (spec_l2Cmp.j1 k x0 x1 x5 false)
def spec_l2Cmp.j1 : Nat → List (S60) → List (S60) → Int → Bool → Option (Int)
 | 0, _, _, _, _ => none
 | k + 1, x0, x1, x5, x17 => if x17 = true then (if 0 ≤ x5 then (if x5 < (x0.length : Int) then (if x5 < (x1.length : Int) then ((spec_l2CmpText.f k ((rd_T60 x0 x5).f0) ((rd_T60 x1 x5).f0)).bind fun t1004 => (if t1004 = 0 then ((spec_l2CmpText.f k ((rd_T60 x0 x5).f1) ((rd_T60 x1 x5).f1)).bind fun t1007 => (if t1007 = 0 then (spec_l2Cmp.l0 k x0 x1 (wrap64 (x5 + 1))) else (some t1007))) else (some t1004))) else (none)) else (none)) else (none)) else ((spec_l2CmpNum.f (x0.length : Int) (x1.length : Int)).bind fun t1001 => (some t1001))
end
def spec_l2Cmp.f (k : Nat) (l0 : List (S60)) (l1 : List (S60)) : Option (Int) := spec_l2Cmp.l0 k l0 l1 0
theorem spec_l2Cmp.mono_l : ∀ k, (∀ y0 y1 y2, LeO (spec_l2Cmp.l0 k y0 y1 y2) (spec_l2Cmp.l0 (k + 1) y0 y1 y2)) ∧ (∀ y0 y1 y2 y3, LeO (spec_l2Cmp.j1 k y0 y1 y2 y3) (spec_l2Cmp.j1 (k + 1) y0 y1 y2 y3))
 | 0 => ⟨fun _ _ _ r h => by simp [spec_l2Cmp.l0] at h, fun _ _ _ _ r h => by simp [spec_l2Cmp.j1] at h⟩
 | k + 1 => by
  obtain ⟨ih0, ih1⟩ := spec_l2Cmp.mono_l k
  refine ⟨?_, ?_⟩
  ·intro y0 y1 y2
   unfold spec_l2Cmp.l0
   repeat' with_reducible first | apply ih0 | apply ih1 | apply spec_l2CmpText.mono | apply LeO.refl | apply LeO.none | apply LeO.ite | refine LeO.bind ?_ (fun _ => ?_)
  ·intro y0 y1 y2 y3
   unfold spec_l2Cmp.j1
   repeat' with_reducible first | apply ih0 | apply ih1 | apply spec_l2CmpText.mono | apply LeO.refl | apply LeO.none | apply LeO.ite | refine LeO.bind ?_ (fun _ => ?_)
theorem spec_l2Cmp.mono : ∀ a0 a1 k, LeO (spec_l2Cmp.f k a0 a1) (spec_l2Cmp.f (k + 1) a0 a1) := by
 intro a0 a1 k
 obtain ⟨ih0, ih1⟩ := spec_l2Cmp.mono_l k
 unfold spec_l2Cmp.f
 repeat' with_reducible first | apply ih0 | apply ih1 | apply spec_l2CmpText.mono | apply LeO.refl | apply LeO.none | apply LeO.ite | refine LeO.bind ?_ (fun _ => ?_)
set_option maxHeartbeats 8000000 in
set_option maxRecDepth 100000 in
theorem spec_l2Cmp.calls (k : Nat) (A0 : Option Addr) (c0 : Nat) (l0 : List (S60)) (A1 : Option Addr) (c1 : Nat) (l1 : List (S60)) (r : Int) (w : World) (hr0 : Kd.C k60 w A0 l0.length l0) (hc0 : l0.length ≤ c0) (hr1 : Kd.C k60 w A1 l1.length l1) (hc1 : l1.length ≤ c1) (h : spec_l2Cmp.f k l0 l1 = some r) :
  Calls Try.prog 38 #[.slice A0 l0.length c0, .slice A1 l1.length c1] w fun e w' => e = .returned (.int .i64 r) ∧ Drawn0 w w' := by
 have HR0 := am_ hr0; have HC0 := am_ hc0; clear hr0 hc0; have HR1 := am_ hr1; have HC1 := am_ hc1; clear hr1 hc1; have H := h; clear h; unfold spec_l2Cmp.f at H; have H' := am_ H; clear H; go_enter Try.func38, Try.ntmps38; go_wp2; (repeat (go_quiet (fail); try go_wp2))
 go_loopg [5] k (fun kq v5 w' => ∃ (x5_1 : Int), v5 = .int .i64 x5_1 ∧ Aside0 (spec_l2Cmp.l0 kq l0 l1 x5_1 = some r) ∧ Aside0 (kq ≤ k) ∧ Drawn0 w w')
 case atStart => exact ⟨(0), rs_, H', ⟨Nat.le_refl _⟩, by repeat (first | exact Drawn0.refl _ | apply Drawn0.step)⟩
 case round =>
  clear H'; obtain ⟨x5_1, rfl, HA, HK1, ⟨m1, rfl⟩⟩ := hrel
  cases gk with
  | zero => exact absurd HA.out (by simp [spec_l2Cmp.l0])
  | succ k1 =>
   have H := HA.out; clear HA; simp only [spec_l2Cmp.l0] at H; have HC3 := am_ H; clear H; go_upto_region 2 with (fail); (repeat (go_quiet (fail); go_upto_region 2 with (fail)))
   go_cut [17] (fun v17 wc => ∃ (kq : Nat) (x17_2 : Bool), v17 = .bool x17_2 ∧ Aside0 (spec_l2Cmp.j1 kq l0 l1 x5_1 x17_2 = some r) ∧ Aside0 (kq ≤ k1) ∧ Drawn0 w wc)
   case first =>
    have H := HC3.out; clear HC3
    by_cases c4 : x5_1 < (l0.length : Int)
    ·rw [if_pos c4] at H; have c4b0 := decide_eq_true c4; clear c4; (first | rw [c4b0] | (simp only [i64_w, i32_w]; rw [c4b0]) | skip); have H' := am_ H; clear H; go_wp2; (repeat (go_quiet (fail); try go_wp2)); go_meet
     case rel => exact ⟨_, (decide (x5_1 < (l1.length : Int))), rs_, H', ⟨by have := HK1.out; first | omega | exact Nat.le_refl _⟩, by repeat (first | exact Drawn0.refl _ | apply Drawn0.step)⟩
    ·rw [if_neg c4] at H; have c4b0 := decide_eq_false c4; clear c4; (first | rw [c4b0] | (simp only [i64_w, i32_w]; rw [c4b0]) | skip); have H' := am_ H; clear H; go_wp2; (repeat (go_quiet (fail); try go_wp2)); go_meet
     case rel => exact ⟨_, (false), rs_, H', ⟨by have := HK1.out; first | omega | exact Nat.le_refl _⟩, by repeat (first | exact Drawn0.refl _ | apply Drawn0.step)⟩
   case rest =>
    clear HC3; obtain ⟨kq, x17_2, rfl, HA, HJ2, ⟨mc2, rfl⟩⟩ := hcut
    cases kq with
    | zero => exact absurd HA.out (by simp [spec_l2Cmp.j1])
    | succ kj2 =>
     have H := HA.out; clear HA; simp only [spec_l2Cmp.j1] at H
     by_cases c5 : x17_2 = true
     ·subst c5; replace H := it_ H; replace H := is_ H; obtain ⟨c6, H⟩ := H; have c6b0 := decide_eq_true c6; clear c6; replace H := is_ H; obtain ⟨c7, H⟩ := H; have c7b0 := decide_eq_true c7; clear c7; replace H := is_ H; obtain ⟨c8, H⟩ := H; have c8b0 := decide_eq_true c8; clear c8; replace H := bs_ H; obtain ⟨t1004, A9, H⟩ := H
      by_cases c10 : t1004 = 0
      ·rw [if_pos c10] at H; have c10b0 := eb_ c10; have c10b1 := en_ c10; clear c10; replace H := bs_ H; obtain ⟨t1007, A11, H⟩ := H
       by_cases c12 : t1007 = 0
       ·rw [if_pos c12] at H; have c12b0 := eb_ c12; have c12b1 := en_ c12; clear c12; have H' := am_ H; clear H; have p1002 : 0 ≤ (x5_1 : Int) := od_; have q1002 : x5_1 < (l0.length : Int) := od_; obtain ⟨ad1002, e1002, hx1002_0, hx1002_1⟩ := at_T60 HR0.out x5_1 p1002 q1002
        cases e1002
        replace p1002 := eq_true p1002; replace q1002 := eq_true q1002; have p1003 : 0 ≤ (x5_1 : Int) := od_; have q1003 : x5_1 < (l1.length : Int) := od_; obtain ⟨ad1003, e1003, hx1003_0, hx1003_1⟩ := at_T60 HR1.out x5_1 p1003 q1003
        cases e1003
        replace p1003 := eq_true p1003; replace q1003 := eq_true q1003; go_wp2_with (first | (go_at_call 39; (with_reducible refine (spec_l2CmpText.calls kj2 ((rd_T60 l0 x5_1).f0) ((rd_T60 l1 x5_1).f0) t1004 _ A9.out).mono ?_); rintro e w' ⟨rfl, ⟨nd, rfl⟩⟩; (try exact dd_); have p1005 : 0 ≤ (x5_1 : Int) := od_; have q1005 : x5_1 < (l0.length : Int) := od_; obtain ⟨ad1005, e1005, hx1005_0, hx1005_1⟩ := at_T60 HR0.out x5_1 p1005 q1005; obtain rfl : ad1002 = ad1005 := (by injection e1005); replace p1005 := eq_true p1005; replace q1005 := eq_true q1005; have p1006 : 0 ≤ (x5_1 : Int) := od_; have q1006 : x5_1 < (l1.length : Int) := od_; obtain ⟨ad1006, e1006, hx1006_0, hx1006_1⟩ := at_T60 HR1.out x5_1 p1006 q1006; obtain rfl : ad1003 = ad1006 := (by injection e1006); replace p1006 := eq_true p1006; replace q1006 := eq_true q1006) | (go_at_call 39; (with_reducible refine (spec_l2CmpText.calls kj2 ((rd_T60 l0 x5_1).f1) ((rd_T60 l1 x5_1).f1) t1007 _ A11.out).mono ?_); rintro e w' ⟨rfl, ⟨nd, rfl⟩⟩; (try exact dd_))); (repeat (go_quiet (first | (go_at_call 39; (with_reducible refine (spec_l2CmpText.calls kj2 ((rd_T60 l0 x5_1).f0) ((rd_T60 l1 x5_1).f0) t1004 _ A9.out).mono ?_); rintro e w' ⟨rfl, ⟨nd, rfl⟩⟩; (try exact dd_); have p1005 : 0 ≤ (x5_1 : Int) := od_; have q1005 : x5_1 < (l0.length : Int) := od_; obtain ⟨ad1005, e1005, hx1005_0, hx1005_1⟩ := at_T60 HR0.out x5_1 p1005 q1005; obtain rfl : ad1002 = ad1005 := (by injection e1005); replace p1005 := eq_true p1005; replace q1005 := eq_true q1005; have p1006 : 0 ≤ (x5_1 : Int) := od_; have q1006 : x5_1 < (l1.length : Int) := od_; obtain ⟨ad1006, e1006, hx1006_0, hx1006_1⟩ := at_T60 HR1.out x5_1 p1006 q1006; obtain rfl : ad1003 = ad1006 := (by injection e1006); replace p1006 := eq_true p1006; replace q1006 := eq_true q1006) | (go_at_call 39; (with_reducible refine (spec_l2CmpText.calls kj2 ((rd_T60 l0 x5_1).f1) ((rd_T60 l1 x5_1).f1) t1007 _ A11.out).mono ?_); rintro e w' ⟨rfl, ⟨nd, rfl⟩⟩; (try exact dd_))); try go_wp2)); go_roundg kj2
        case measure => have := HK1.out; have := HJ2.out; omega
        case rel => exact ⟨(wrap64 (x5_1 + 1)), rs_, H', ⟨by have := HK1.out; have := HJ2.out; omega⟩, by repeat (first | exact Drawn0.refl _ | apply Drawn0.step)⟩
       ·rw [if_neg c12] at H; have c12b0 := nb_ c12; have c12b1 := nn_ c12; obtain rfl := si_ H; have p1002 : 0 ≤ (x5_1 : Int) := od_; have q1002 : x5_1 < (l0.length : Int) := od_; obtain ⟨ad1002, e1002, hx1002_0, hx1002_1⟩ := at_T60 HR0.out x5_1 p1002 q1002
        cases e1002
        replace p1002 := eq_true p1002; replace q1002 := eq_true q1002; have p1003 : 0 ≤ (x5_1 : Int) := od_; have q1003 : x5_1 < (l1.length : Int) := od_; obtain ⟨ad1003, e1003, hx1003_0, hx1003_1⟩ := at_T60 HR1.out x5_1 p1003 q1003
        cases e1003
        replace p1003 := eq_true p1003; replace q1003 := eq_true q1003; go_wp2_with (first | (go_at_call 39; (with_reducible refine (spec_l2CmpText.calls kj2 ((rd_T60 l0 x5_1).f0) ((rd_T60 l1 x5_1).f0) t1004 _ A9.out).mono ?_); rintro e w' ⟨rfl, ⟨nd, rfl⟩⟩; (try exact dd_); have p1005 : 0 ≤ (x5_1 : Int) := od_; have q1005 : x5_1 < (l0.length : Int) := od_; obtain ⟨ad1005, e1005, hx1005_0, hx1005_1⟩ := at_T60 HR0.out x5_1 p1005 q1005; obtain rfl : ad1002 = ad1005 := (by injection e1005); replace p1005 := eq_true p1005; replace q1005 := eq_true q1005; have p1006 : 0 ≤ (x5_1 : Int) := od_; have q1006 : x5_1 < (l1.length : Int) := od_; obtain ⟨ad1006, e1006, hx1006_0, hx1006_1⟩ := at_T60 HR1.out x5_1 p1006 q1006; obtain rfl : ad1003 = ad1006 := (by injection e1006); replace p1006 := eq_true p1006; replace q1006 := eq_true q1006) | (go_at_call 39; (with_reducible refine (spec_l2CmpText.calls kj2 ((rd_T60 l0 x5_1).f1) ((rd_T60 l1 x5_1).f1) t1007 _ A11.out).mono ?_); rintro e w' ⟨rfl, ⟨nd, rfl⟩⟩; (try exact dd_))); (repeat (go_quiet (first | (go_at_call 39; (with_reducible refine (spec_l2CmpText.calls kj2 ((rd_T60 l0 x5_1).f0) ((rd_T60 l1 x5_1).f0) t1004 _ A9.out).mono ?_); rintro e w' ⟨rfl, ⟨nd, rfl⟩⟩; (try exact dd_); have p1005 : 0 ≤ (x5_1 : Int) := od_; have q1005 : x5_1 < (l0.length : Int) := od_; obtain ⟨ad1005, e1005, hx1005_0, hx1005_1⟩ := at_T60 HR0.out x5_1 p1005 q1005; obtain rfl : ad1002 = ad1005 := (by injection e1005); replace p1005 := eq_true p1005; replace q1005 := eq_true q1005; have p1006 : 0 ≤ (x5_1 : Int) := od_; have q1006 : x5_1 < (l1.length : Int) := od_; obtain ⟨ad1006, e1006, hx1006_0, hx1006_1⟩ := at_T60 HR1.out x5_1 p1006 q1006; obtain rfl : ad1003 = ad1006 := (by injection e1006); replace p1006 := eq_true p1006; replace q1006 := eq_true q1006) | (go_at_call 39; (with_reducible refine (spec_l2CmpText.calls kj2 ((rd_T60 l0 x5_1).f1) ((rd_T60 l1 x5_1).f1) t1007 _ A11.out).mono ?_); rintro e w' ⟨rfl, ⟨nd, rfl⟩⟩; (try exact dd_))); try go_wp2)); go_ret; exact ⟨by first | rfl | (simp; done) | (simp [*]; done), by repeat (first | exact Drawn0.refl _ | apply Drawn0.step)⟩
      ·rw [if_neg c10] at H; have c10b0 := nb_ c10; have c10b1 := nn_ c10; obtain rfl := si_ H; have p1002 : 0 ≤ (x5_1 : Int) := od_; have q1002 : x5_1 < (l0.length : Int) := od_; obtain ⟨ad1002, e1002, hx1002_0, hx1002_1⟩ := at_T60 HR0.out x5_1 p1002 q1002
       cases e1002
       replace p1002 := eq_true p1002; replace q1002 := eq_true q1002; have p1003 : 0 ≤ (x5_1 : Int) := od_; have q1003 : x5_1 < (l1.length : Int) := od_; obtain ⟨ad1003, e1003, hx1003_0, hx1003_1⟩ := at_T60 HR1.out x5_1 p1003 q1003
       cases e1003
       replace p1003 := eq_true p1003; replace q1003 := eq_true q1003; go_wp2_with (first | (go_at_call 39; (with_reducible refine (spec_l2CmpText.calls kj2 ((rd_T60 l0 x5_1).f0) ((rd_T60 l1 x5_1).f0) t1004 _ A9.out).mono ?_); rintro e w' ⟨rfl, ⟨nd, rfl⟩⟩; (try exact dd_))); (repeat (go_quiet (first | (go_at_call 39; (with_reducible refine (spec_l2CmpText.calls kj2 ((rd_T60 l0 x5_1).f0) ((rd_T60 l1 x5_1).f0) t1004 _ A9.out).mono ?_); rintro e w' ⟨rfl, ⟨nd, rfl⟩⟩; (try exact dd_))); try go_wp2)); go_ret; exact ⟨by first | rfl | (simp; done) | (simp [*]; done), by repeat (first | exact Drawn0.refl _ | apply Drawn0.step)⟩
     ·replace c5 := Bool.eq_false_iff.mpr c5; subst c5; replace H := if_ H; replace H := bs_ H; obtain ⟨t1001, A13, H⟩ := H; obtain rfl := si_ H; go_wp2_with (first | (go_at_call 63; (with_reducible refine (spec_l2CmpNum.calls (l0.length : Int) (l1.length : Int) t1001 _ A13.out).mono ?_); rintro e w' ⟨rfl, ⟨nd, rfl⟩⟩; (try exact dd_))); (repeat (go_quiet (first | (go_at_call 63; (with_reducible refine (spec_l2CmpNum.calls (l0.length : Int) (l1.length : Int) t1001 _ A13.out).mono ?_); rintro e w' ⟨rfl, ⟨nd, rfl⟩⟩; (try exact dd_))); try go_wp2)); go_ret; exact ⟨by first | rfl | (simp; done) | (simp [*]; done), by repeat (first | exact Drawn0.refl _ | apply Drawn0.step)⟩

/-! ### spec_GoodSeries: function 18 -/
def spec_GoodSeries.l0 : Nat → List (S44) → List (S44) → Int → Int → Option (Bool)
 | 0, _, _, _, _ => none
 | k + 1, x0, x8, x9, x10 => if x10 < x9 then (if 0 ≤ x10 then (if x10 < (x8.length : Int) then ((spec_l7Named.f k ((rd_T44 x8 x10).f0)).bind fun t1003 => (if t1003 = true then ((spec_GoodSamples.f k ((rd_T44 x8 x10).f1)).bind fun t1004 => (if t1004 = true then (if (((rd_T44 x8 x10).f1).length : Int) = 0 then (some false) else (if x10 > 0 then (if 0 ≤ (wrap64 (x10 - 1)) then (if (wrap64 (x10 - 1)) < (x0.length : Int) then ((spec_l2Cmp.f k ((rd_T44 x0 (wrap64 (x10 - 1))).f0) ((rd_T44 x8 x10).f0)).bind fun t1006 => (if t1006 ≥ 0 then (some false) else (spec_GoodSeries.l0 k x0 x8 x9 (wrap64 (x10 + 1))))) else (none)) else (none)) else (spec_GoodSeries.l0 k x0 x8 x9 (wrap64 (x10 + 1))))) else (some false))) else (some false))) else (none)) else (none)) else (some true)
def spec_GoodSeries.f (k : Nat) (l0 : List (S44)) : Option (Bool) := if (l0.length : Int) > 200 then (some false) else (spec_GoodSeries.l0 k l0 l0 (l0.length : Int) 0)
theorem spec_GoodSeries.mono_l : ∀ k, (∀ y0 y1 y2 y3, LeO (spec_GoodSeries.l0 k y0 y1 y2 y3) (spec_GoodSeries.l0 (k + 1) y0 y1 y2 y3))
 | 0 => fun _ _ _ _ r h => by simp [spec_GoodSeries.l0] at h
 | k + 1 => by
  have ih0 := spec_GoodSeries.mono_l k
  ·intro y0 y1 y2 y3
   unfold spec_GoodSeries.l0
   repeat' with_reducible first | apply ih0 | apply spec_GoodSamples.mono | apply spec_l2Cmp.mono | apply spec_l7Named.mono | apply LeO.refl | apply LeO.none | apply LeO.ite | refine LeO.bind ?_ (fun _ => ?_)
theorem spec_GoodSeries.mono : ∀ a0 k, LeO (spec_GoodSeries.f k a0) (spec_GoodSeries.f (k + 1) a0) := by
 intro a0 k
 have ih0 := spec_GoodSeries.mono_l k
 unfold spec_GoodSeries.f
 repeat' with_reducible first | apply ih0 | apply spec_GoodSamples.mono | apply spec_l2Cmp.mono | apply spec_l7Named.mono | apply LeO.refl | apply LeO.none | apply LeO.ite | refine LeO.bind ?_ (fun _ => ?_)
def spec_GoodSeries.T6 : Bool × List (List Nat × List Nat) := (true, [([], []), ([0], [0]), ([1], [1]), ([2], [2]), ([3, 2], [3]), ([4], [4]), ([5, 4], [4, 5]), ([6, 4, 4], [4, 6]), ([7, 4], [4, 7]), ([4, 8], [4, 8]), ([9, 7], [9]), ([10], [10]), ([11, 10], [10, 11]), ([12, 10], [10, 12]), ([13, 10], [10, 13]), ([10, 14], [10, 14]), ([15, 10], [15]), ([16], [16]), ([17, 16], [16, 17]), ([18, 16, 16], [16, 18]), ([19], [19]), ([19], [19]), ([21, 19], [19, 21]), ([20, 22, 19], [19, 20, 22]), ([23, 19], [19, 23]), ([24, 19], [19, 24]), ([19], [19]), ([26, 19], [19, 26]), ([25, 27, 19, 19], [19, 25, 27]), ([28, 19], [19, 28]), ([19, 29, 16], [16, 19, 29]), ([16, 30], [16, 30])])
def spec_GoodSeries.B6 : List Nat := [0, 1, 3, 7, 15, 31, 63, 127, 255, 511, 1023, 2047, 4095, 8191, 16383, 32767, 65535, 131071, 262143, 524287, 1048575, 1048575, 3145727, 8388607, 16777215, 33554431, 1048575, 68157439, 268435455, 536870911, 1073741823, 2147483647]
theorem spec_GoodSeries.tab6 : rtab .any (opsOf Try.f18 6) = spec_GoodSeries.T6 := by kernel_rfl
theorem spec_GoodSeries.bits6 : waitsOk spec_GoodSeries.T6.2 spec_GoodSeries.B6 = true := by kernel_rfl
set_option maxHeartbeats 8000000 in
set_option maxRecDepth 100000 in
theorem spec_GoodSeries.calls (k : Nat) (A0 : Option Addr) (c0 : Nat) (l0 : List (S44)) (r : Bool) (w : World) (hr0 : Kd.C k44 w A0 l0.length l0) (hc0 : l0.length ≤ c0) (h : spec_GoodSeries.f k l0 = some r) :
  Calls Try.prog 18 #[.slice A0 l0.length c0] w fun e w' => e = .returned (.bool r) ∧ Below w.heap.size w w' := by
 have hu44 := Try.underlying44; have HR0 := am_ hr0; have HC0 := am_ hc0; clear hr0 hc0; have HB := am_ (Below.refl w.heap.size w); have H := h; clear h; unfold spec_GoodSeries.f at H
 by_cases c2 : (l0.length : Int) > 200
 ·rw [if_pos c2] at H; have c2b0 := dg_ c2; have c2b1 : decide (200 < l0.length) = true := decide_eq_true (by omega); clear c2; obtain rfl := si_ H; go_enter Try.func18, Try.ntmps18; go_wp2; go_ret; exact ⟨rf_, bl_⟩
 ·rw [if_neg c2] at H; have c2b0 := df_ c2; have c2b1 : decide (200 < l0.length) = false := decide_eq_false (by omega); clear c2; have H' := am_ H; clear H; go_enter Try.func18, Try.ntmps18; go_wp2
  go_loopg [10] k (fun kq v10 w' => ∃ (x10_1 : Int), v10 = .int .i64 x10_1 ∧ Aside0 (spec_GoodSeries.l0 kq l0 l0 (l0.length : Int) x10_1 = some r) ∧ Aside0 (kq ≤ k) ∧ Aside0 (Below w.heap.size w w'))
  case atStart => exact ⟨(0), rs_, H', ⟨Nat.le_refl _⟩, ⟨bl_⟩⟩
  case round =>
   clear H'; (try clear c2); (try clear c2b0); (try clear c2b1); obtain ⟨x10_1, rfl, HA, HK1, HB⟩ := hrel
   cases gk with
   | zero => exact absurd HA.out (by simp [spec_GoodSeries.l0])
   | succ k1 =>
    have H := HA.out; clear HA; simp only [spec_GoodSeries.l0] at H
    by_cases c3 : x10_1 < (l0.length : Int)
    ·rw [if_pos c3] at H; have c3b0 := decide_eq_true c3; clear c3; replace H := is_ H; obtain ⟨c4, H⟩ := H; have c4b0 := decide_eq_true c4; clear c4; replace H := is_ H; obtain ⟨c5, H⟩ := H; have c5b0 := decide_eq_true c5; clear c5; replace H := bs_ H; obtain ⟨t1003, A6, H⟩ := H
     by_cases c7 : t1003 = true
     ·subst c7; replace H := it_ H; replace H := bs_ H; obtain ⟨t1004, A8, H⟩ := H
      by_cases c9 : t1004 = true
      ·subst c9; replace H := it_ H
       by_cases c10 : (((rd_T44 l0 x10_1).f1).length : Int) = 0
       ·rw [if_pos c10] at H; have c10b0 := eb_ c10; have c10b1 := en_ c10; clear c10; obtain rfl := si_ H; have p1001 : 0 ≤ (x10_1 : Int) := od_; have q1001 : x10_1 < (l0.length : Int) := od_; obtain ⟨ad1001, A1001_0, c1001_0, A1001_1, c1001_1, e1001, hx1001_0, hx1001_1, hl1001_0, hi1001_0, hl1001_1, hi1001_1⟩ := at_T44 HR0.out x10_1 p1001 q1001
        cases e1001
        replace hx1001_0 := kp_ HB hx1001_0; replace hx1001_1 := kp_ HB hx1001_1; have HR1001_0 := am_ hi1001_0; have HC1001_0 := am_ hl1001_0; clear hi1001_0 hl1001_0; have HR1001_1 := am_ hi1001_1; have HC1001_1 := am_ hl1001_1; clear hi1001_1 hl1001_1; replace p1001 := eq_true p1001; replace q1001 := eq_true q1001; (try go_wp2_with (first | ((with_reducible refine gate_dst (N := 4) rfl ?_); (try (refine gate_guard (by rfl) ?_; dsimp only)); refine bx_ 4 #[.slice none 0 0, .slice none 0 0] 44 ?_; intro gb1002 hg w11 hbox hb; have BK1002 := am_ (hbox); have GW1002 := am_ (gs_ hg : w.heap.size ≤ gb1002); replace HB := am_ (below_step bl_ hb); have GE1002 := GW1002; clear hb hbox hg; have hz12 := bk2_ BK1002))); have n0_ : Aside0 (((w11.setCell ⟨gb1002, 0, none⟩ (.slice A1001_0 ((rd_T44 l0 x10_1).f0).length c1001_0)).setCell ⟨gb1002, 1, none⟩ (.slice A1001_1 ((rd_T44 l0 x10_1).f1).length c1001_1)).heap[gb1002]? = some (.cells #[.slice A1001_0 ((rd_T44 l0 x10_1).f0).length c1001_0, .slice A1001_1 ((rd_T44 l0 x10_1).f1).length c1001_1] 44 (0, 0))) := ⟨by (with_reducible repeat (first | refine blk_drewN ?_ _ | refine blk_drew ?_ | refine blk_alloc ?_ _)); refine blk_put (cs := #[.slice A1001_0 ((rd_T44 l0 x10_1).f0).length c1001_0, .slice none 0 0]) ?_ 1 _ rfl; (with_reducible repeat (first | refine blk_drewN ?_ _ | refine blk_drew ?_ | refine blk_alloc ?_ _)); refine blk_put (cs := #[.slice none 0 0, .slice none 0 0]) ?_ 0 _ rfl; (with_reducible repeat (first | refine blk_drewN ?_ _ | refine blk_drew ?_ | refine blk_alloc ?_ _)); exact BK1002.out⟩; have n1_ : Aside0 (Below w.heap.size w ((w11.setCell ⟨gb1002, 0, none⟩ (.slice A1001_0 ((rd_T44 l0 x10_1).f0).length c1001_0)).setCell ⟨gb1002, 1, none⟩ (.slice A1001_1 ((rd_T44 l0 x10_1).f1).length c1001_1))) := ⟨bg_⟩; (try clear BK1002); (try clear HB); generalize ((w11.setCell ⟨gb1002, 0, none⟩ (.slice A1001_0 ((rd_T44 l0 x10_1).f0).length c1001_0)).setCell ⟨gb1002, 1, none⟩ (.slice A1001_1 ((rd_T44 l0 x10_1).f1).length c1001_1)) = w13 at n0_ n1_ ⊢; have BK1002 := n0_; have HB := n1_; clear n0_ n1_; have n0_ := am_ (blk_drew BK1002.out); have n1_ := am_ (below_drew1 HB.out); clear BK1002; clear HB; have BK1002 := n0_; have HB := n1_; clear n0_ n1_; refine start_ (n := 32) (S := fun w' => w'.cell? ⟨gb1002, 0, none⟩ = some (.slice A1001_0 ((rd_T44 l0 x10_1).f0).length c1001_0) ∧ w'.cell? ⟨gb1002, 1, none⟩ = some (.slice A1001_1 ((rd_T44 l0 x10_1).f1).length c1001_1)) (ds := []) (bz 32 0) (by kernel_rfl) rfl rfl ⟨(blk_cell BK1002.out 0).trans rfl, (blk_cell BK1002.out 1).trans rfl⟩ (fun hHeld => ?_); refine with_tabW spec_GoodSeries.tab6 spec_GoodSeries.bits6 (fun HT_ HW_ => ?_); generalize w13.drew = w14 at BK1002 HB hHeld ⊢; refine pz_ 0 15 1 ?_; refine tz_ 1 16 3 ?_; refine one_ (i := 2) (N := some 17) (bz 32 7) rfl rfl (one_of HT_.out (by kernel_rfl)) (by decide) (fun K hK => ?_); refine goes_ Try.func36 (by kernel_rfl) rfl #[.slice A1001_0 ((rd_T44 l0 x10_1).f0).length c1001_0] (by rfl) rfl rfl ag_ ?_; (with_reducible refine (spec_l7Named.calls k1 _ _ ((rd_T44 l0 x10_1).f0) true _ ?side1 ?side2 A6.out).mono ?_); (case side1 => exact cc_ (Kd.C_below HR1001_0.out HB.out)); (case side2 => exact HC1001_0.out); rintro e w15 ⟨rfl, hb⟩; refine ⟨_, rfl, ?_⟩; have n0_ := am_ (blk_below (g := gb1002) (vk_ BK1002) hb); have n1_ := am_ (below_step bg_ hb); clear BK1002; clear HB; have BK1002 := n0_; have HB := n1_; clear n0_ n1_; (try clear hb); (try clear hb2); (try clear hk); (try clear hi); refine hK.out _ _ ⟨(blk_cell BK1002.out 0).trans rfl, (blk_cell BK1002.out 1).trans rfl⟩ (fun hHeld => ?_); clear hK K; refine norm_ (a' := ?_) ?_ ?_; rotate_left
        ·show Act.put _ (some 17) _ = _; simp only [Act.put, List.setIfInBounds_toArray, List.set_cons_zero, List.set_cons_succ, i64_w, i32_w]; rfl
        refine pz_ 3 18 15 ?_; refine pz_ 4 19 31 ?_; refine pz_ 5 20 63 ?_; refine tz_ 6 21 127 ?_; refine one_ (i := 7) (N := some 22) (bz 32 255) rfl rfl (one_of HT_.out (by kernel_rfl)) (by decide) (fun K hK => ?_); refine goes_ Try.func37 (by kernel_rfl) rfl #[.slice A1001_1 ((rd_T44 l0 x10_1).f1).length c1001_1] (by rfl) rfl rfl ag_ ?_; (with_reducible refine (spec_GoodSamples.calls k1 _ _ ((rd_T44 l0 x10_1).f1) true _ ?side1 ?side2 A8.out).mono ?_); (case side1 => exact cc_ (Kd.C_below HR1001_1.out HB.out)); (case side2 => exact HC1001_1.out); rintro e w16 ⟨rfl, hb⟩; refine ⟨_, rfl, ?_⟩; have n0_ := am_ (blk_below (g := gb1002) (vk_ BK1002) hb); have n1_ := am_ (below_step bg_ hb); clear BK1002; clear HB; have BK1002 := n0_; have HB := n1_; clear n0_ n1_; (try clear hb); (try clear hb2); (try clear hk); (try clear hi); refine hK.out _ _ ⟨(blk_cell BK1002.out 0).trans rfl, (blk_cell BK1002.out 1).trans rfl⟩ (fun hHeld => ?_); clear hK K; refine norm_ (a' := ?_) ?_ ?_; rotate_left
        ·show Act.put _ (some 22) _ = _; simp only [Act.put, List.setIfInBounds_toArray, List.set_cons_zero, List.set_cons_succ, i64_w, i32_w]; rfl
        refine pz_ 8 23 511 ?_; refine pz_ 9 24 1023 ?_; refine pz_ 10 25 2047 ?_; refine pz_ 11 26 4095 ?_; refine tz_ 12 27 8191 ?_; refine pz_ 13 28 16383 ?_; refine pz_ 14 29 32767 ?_; refine pz_ 15 30 65535 ?_; refine pz_ 16 31 131071 ?_; refine uz_ 17 32 262143 ?_; refine uz_ 18 33 524287 ?_; refine uz_ 19 34 1048575 ?_; refine uz_ 20 35 2097151 ?_; refine uz_ 21 36 4194303 ?_; refine uz_ 22 37 8388607 ?_; refine uz_ 23 38 16777215 ?_; refine uz_ 24 39 33554431 ?_; refine uz_ 25 40 67108863 ?_; refine uz_ 26 41 134217727 ?_; refine uz_ 27 42 268435455 ?_; refine uz_ 28 43 536870911 ?_; refine uz_ 29 44 1073741823 ?_; refine uz_ 30 45 2147483647 ?_; refine pz_ 31 46 4294967295 ?_; refine done_ (done_of HT_.out (by kernel_rfl)) ?_; (try go_wp2); go_ret; exact ⟨rf_, bg_⟩
       ·rw [if_neg c10] at H; have c10b0 := nb_ c10; have c10b1 := nn_ c10; have c10b2 : ¬ (((rd_T44 l0 x10_1).f1) = []) := fun h_ => c10 (by rw [h_]; rfl)
        by_cases c17 : x10_1 > 0
        ·rw [if_pos c17] at H; have c17b0 := dg_ c17; clear c17; obtain ⟨ji18, hji18⟩ : ∃ j_ : Int, (wrap64 (x10_1 - 1)) = j_ := ⟨_, rfl⟩; replace H : (if 0 ≤ (ji18) then (if (ji18) < (l0.length : Int) then ((spec_l2Cmp.f k1 ((rd_T44 l0 (ji18)).f0) ((rd_T44 l0 x10_1).f0)).bind fun t1006 => (if t1006 ≥ 0 then (some false) else (spec_GoodSeries.l0 k1 l0 l0 (l0.length : Int) (wrap64 (x10_1 + 1))))) else (none)) else (none)) = some r := by first | (rw [hji18] at H; exact H) | (simp only [hji18] at H ⊢; exact H)
         (try rw [hji18] at A6); (try rw [hji18] at A8); have hji18w : (IntKind.i64.wrap (x10_1 - 1)) = ji18 := (i64_w _).trans hji18; replace H := is_ H; obtain ⟨c19, H⟩ := H; have c19b0 := decide_eq_true c19; clear c19; replace H := is_ H; obtain ⟨c20, H⟩ := H; have c20b0 := decide_eq_true c20; clear c20; replace H := bs_ H; obtain ⟨t1006, A21, H⟩ := H
         by_cases c22 : t1006 ≥ 0
         ·rw [if_pos c22] at H; have c22b0 : decide (0 ≤ t1006) = true := decide_eq_true c22; clear c22; obtain rfl := si_ H; have p1001 : 0 ≤ (x10_1 : Int) := od_; have q1001 : x10_1 < (l0.length : Int) := od_; obtain ⟨ad1001, A1001_0, c1001_0, A1001_1, c1001_1, e1001, hx1001_0, hx1001_1, hl1001_0, hi1001_0, hl1001_1, hi1001_1⟩ := at_T44 HR0.out x10_1 p1001 q1001
          cases e1001
          replace hx1001_0 := kp_ HB hx1001_0; replace hx1001_1 := kp_ HB hx1001_1; have HR1001_0 := am_ hi1001_0; have HC1001_0 := am_ hl1001_0; clear hi1001_0 hl1001_0; have HR1001_1 := am_ hi1001_1; have HC1001_1 := am_ hl1001_1; clear hi1001_1 hl1001_1; replace p1001 := eq_true p1001; replace q1001 := eq_true q1001; (try go_wp2_with (first | ((with_reducible refine gate_dst (N := 4) rfl ?_); (try (refine gate_guard (by rfl) ?_; dsimp only)); refine bx_ 4 #[.slice none 0 0, .slice none 0 0] 44 ?_; intro gb1002 hg w23 hbox hb; have BK1002 := am_ (hbox); have GW1002 := am_ (gs_ hg : w.heap.size ≤ gb1002); replace HB := am_ (below_step bl_ hb); have GE1002 := GW1002; clear hb hbox hg; have hz24 := bk2_ BK1002))); have n0_ : Aside0 (((w23.setCell ⟨gb1002, 0, none⟩ (.slice A1001_0 ((rd_T44 l0 x10_1).f0).length c1001_0)).setCell ⟨gb1002, 1, none⟩ (.slice A1001_1 ((rd_T44 l0 x10_1).f1).length c1001_1)).heap[gb1002]? = some (.cells #[.slice A1001_0 ((rd_T44 l0 x10_1).f0).length c1001_0, .slice A1001_1 ((rd_T44 l0 x10_1).f1).length c1001_1] 44 (0, 0))) := ⟨by (with_reducible repeat (first | refine blk_drewN ?_ _ | refine blk_drew ?_ | refine blk_alloc ?_ _)); refine blk_put (cs := #[.slice A1001_0 ((rd_T44 l0 x10_1).f0).length c1001_0, .slice none 0 0]) ?_ 1 _ rfl; (with_reducible repeat (first | refine blk_drewN ?_ _ | refine blk_drew ?_ | refine blk_alloc ?_ _)); refine blk_put (cs := #[.slice none 0 0, .slice none 0 0]) ?_ 0 _ rfl; (with_reducible repeat (first | refine blk_drewN ?_ _ | refine blk_drew ?_ | refine blk_alloc ?_ _)); exact BK1002.out⟩; have n1_ : Aside0 (Below w.heap.size w ((w23.setCell ⟨gb1002, 0, none⟩ (.slice A1001_0 ((rd_T44 l0 x10_1).f0).length c1001_0)).setCell ⟨gb1002, 1, none⟩ (.slice A1001_1 ((rd_T44 l0 x10_1).f1).length c1001_1))) := ⟨bg_⟩; (try clear BK1002); (try clear HB); generalize ((w23.setCell ⟨gb1002, 0, none⟩ (.slice A1001_0 ((rd_T44 l0 x10_1).f0).length c1001_0)).setCell ⟨gb1002, 1, none⟩ (.slice A1001_1 ((rd_T44 l0 x10_1).f1).length c1001_1)) = w25 at n0_ n1_ ⊢; have BK1002 := n0_; have HB := n1_; clear n0_ n1_; have n0_ := am_ (blk_drew BK1002.out); have n1_ := am_ (below_drew1 HB.out); clear BK1002; clear HB; have BK1002 := n0_; have HB := n1_; clear n0_ n1_; have p1005 : 0 ≤ ((ji18) : Int) := od_; have q1005 : (ji18) < (l0.length : Int) := od_; obtain ⟨ad1005, A1005_0, c1005_0, A1005_1, c1005_1, e1005, hx1005_0, hx1005_1, hl1005_0, hi1005_0, hl1005_1, hi1005_1⟩ := at_T44 HR0.out (ji18) p1005 q1005; have hw1005_1 := hx1005_1; have hw1005_0 := hx1005_0; obtain rfl : ad1001 = ad1005 := (by injection e1005); replace hx1005_0 := kp_ HB hx1005_0; replace hx1005_1 := kp_ HB hx1005_1; have HR1005_0 := am_ hi1005_0; have HC1005_0 := am_ hl1005_0; clear hi1005_0 hl1005_0; have HR1005_1 := am_ hi1005_1; have HC1005_1 := am_ hl1005_1; clear hi1005_1 hl1005_1; replace p1005 := eq_true p1005; replace q1005 := eq_true q1005; refine start_ (n := 32) (S := fun w' => w'.cell? ⟨gb1002, 0, none⟩ = some (.slice A1001_0 ((rd_T44 l0 x10_1).f0).length c1001_0) ∧ w'.cell? ⟨gb1002, 1, none⟩ = some (.slice A1001_1 ((rd_T44 l0 x10_1).f1).length c1001_1) ∧ w'.cell? (ad1001.add (((ji18)).toNat * 2)) = some (.slice A1005_0 ((rd_T44 l0 (ji18)).f0).length c1005_0) ∧ w'.cell? ⟨(ad1001.add (((ji18)).toNat * 2)).block, (ad1001.add (((ji18)).toNat * 2)).off + 1, none⟩ = some (.slice A1005_1 ((rd_T44 l0 (ji18)).f1).length c1005_1)) (ds := []) (bz 32 0) (by kernel_rfl) rfl rfl ⟨(blk_cell BK1002.out 0).trans rfl, (blk_cell BK1002.out 1).trans rfl, (kp_ HB hw1005_0 :), (kp_ HB hw1005_1 :)⟩ (fun hHeld => ?_); refine with_tabW spec_GoodSeries.tab6 spec_GoodSeries.bits6 (fun HT_ HW_ => ?_); generalize w25.drew = w26 at BK1002 HB HR1005_0 HR1005_1 hx1005_0 hx1005_1 hHeld ⊢; refine pz_ 0 15 1 ?_; refine tz_ 1 16 3 ?_; refine one_ (i := 2) (N := some 17) (bz 32 7) rfl rfl (one_of HT_.out (by kernel_rfl)) (by decide) (fun K hK => ?_); refine goes_ Try.func36 (by kernel_rfl) rfl #[.slice A1001_0 ((rd_T44 l0 x10_1).f0).length c1001_0] (by rfl) rfl rfl ag_ ?_; (with_reducible refine (spec_l7Named.calls k1 _ _ ((rd_T44 l0 x10_1).f0) true _ ?side1 ?side2 A6.out).mono ?_); (case side1 => exact cc_ (Kd.C_below HR1001_0.out HB.out)); (case side2 => exact HC1001_0.out); rintro e w27 ⟨rfl, hb⟩; refine ⟨_, rfl, ?_⟩; have n0_ := am_ (blk_below (g := gb1002) (vk_ BK1002) hb); have n1_ := am_ (below_step bg_ hb); clear BK1002; clear HB; have BK1002 := n0_; have HB := n1_; clear n0_ n1_; (try clear hb); (try clear hb2); (try clear hk); (try clear hi); refine hK.out _ _ ⟨(blk_cell BK1002.out 0).trans rfl, (blk_cell BK1002.out 1).trans rfl, (kp_ HB hw1005_0 :), (kp_ HB hw1005_1 :)⟩ (fun hHeld => ?_); clear hK K; refine norm_ (a' := ?_) ?_ ?_; rotate_left
          ·show Act.put _ (some 17) _ = _; simp only [Act.put, List.setIfInBounds_toArray, List.set_cons_zero, List.set_cons_succ, i64_w, i32_w]; rfl
          refine pz_ 3 18 15 ?_; refine pz_ 4 19 31 ?_; refine pz_ 5 20 63 ?_; refine tz_ 6 21 127 ?_; refine one_ (i := 7) (N := some 22) (bz 32 255) rfl rfl (one_of HT_.out (by kernel_rfl)) (by decide) (fun K hK => ?_); refine goes_ Try.func37 (by kernel_rfl) rfl #[.slice A1001_1 ((rd_T44 l0 x10_1).f1).length c1001_1] (by rfl) rfl rfl ag_ ?_; (with_reducible refine (spec_GoodSamples.calls k1 _ _ ((rd_T44 l0 x10_1).f1) true _ ?side1 ?side2 A8.out).mono ?_); (case side1 => exact cc_ (Kd.C_below HR1001_1.out HB.out)); (case side2 => exact HC1001_1.out); rintro e w28 ⟨rfl, hb⟩; refine ⟨_, rfl, ?_⟩; have n0_ := am_ (blk_below (g := gb1002) (vk_ BK1002) hb); have n1_ := am_ (below_step bg_ hb); clear BK1002; clear HB; have BK1002 := n0_; have HB := n1_; clear n0_ n1_; (try clear hb); (try clear hb2); (try clear hk); (try clear hi); refine hK.out _ _ ⟨(blk_cell BK1002.out 0).trans rfl, (blk_cell BK1002.out 1).trans rfl, (kp_ HB hw1005_0 :), (kp_ HB hw1005_1 :)⟩ (fun hHeld => ?_); clear hK K; refine norm_ (a' := ?_) ?_ ?_; rotate_left
          ·show Act.put _ (some 22) _ = _; simp only [Act.put, List.setIfInBounds_toArray, List.set_cons_zero, List.set_cons_succ, i64_w, i32_w]; rfl
          refine pz_ 8 23 511 ?_; refine pz_ 9 24 1023 ?_; refine pz_ 10 25 2047 ?_; refine pz_ 11 26 4095 ?_; refine tz_ 12 27 8191 ?_; refine pz_ 13 28 16383 ?_; refine pz_ 14 29 32767 ?_; refine pz_ 15 30 65535 ?_; refine pz_ 16 31 131071 ?_; refine pz_ 17 32 262143 ?_; refine pz_ 18 33 524287 ?_; refine pz_ 19 34 1048575 ?_; refine pz_ 20 35 2097151 ?_; refine pz_ 21 36 4194303 ?_; refine pz_ 22 37 8388607 ?_; refine pz_ 23 38 16777215 ?_; refine pz_ 24 39 33554431 ?_; refine pz_ 26 41 100663295 ?_; refine tz_ 25 40 134217727 ?_; refine tz_ 27 42 268435455 ?_; refine one_ (i := 28) (N := some 43) (bz 32 536870911) rfl rfl (one_of HT_.out (by kernel_rfl)) (by decide) (fun K hK => ?_); refine goes_ Try.func38 (by kernel_rfl) rfl #[.slice A1005_0 ((rd_T44 l0 (ji18)).f0).length c1005_0, .slice A1001_0 ((rd_T44 l0 x10_1).f0).length c1001_0] (by rfl) rfl rfl (by (try simp only [List.map_toArray, List.map_cons, List.map_nil]); first | done | (simp only [hji18]; rfl) | rfl | (simp only [List.length_drop, List.length_take]; rfl)) ?_; (with_reducible refine (spec_l2Cmp.calls k1 _ _ ((rd_T44 l0 (ji18)).f0) _ _ ((rd_T44 l0 x10_1).f0) t1006 _ ?side1 ?side2 ?side3 ?side4 A21.out).mono ?_); (case side1 => exact cc_ (Kd.C_below HR1005_0.out HB.out)); (case side2 => exact HC1005_0.out); (case side3 => exact cc_ (Kd.C_below HR1001_0.out HB.out)); (case side4 => exact HC1001_0.out); rintro e w' ⟨rfl, ⟨nd, rfl⟩⟩; refine ⟨_, rfl, ?_⟩; refine hK.out _ _ ⟨(blk_cell BK1002.out 0).trans rfl, (blk_cell BK1002.out 1).trans rfl, (kp_ HB hw1005_0 :), (kp_ HB hw1005_1 :)⟩ (fun hHeld => ?_); clear hK K; refine norm_ (a' := ?_) ?_ ?_; rotate_left
          ·show Act.put _ (some 43) _ = _; simp only [Act.put, List.setIfInBounds_toArray, List.set_cons_zero, List.set_cons_succ, i64_w, i32_w]; rfl
          refine pz_ 29 44 1073741823 ?_; refine pz_ 30 45 2147483647 ?_; refine pz_ 31 46 4294967295 ?_; refine done_ (done_of HT_.out (by kernel_rfl)) ?_; (try go_wp2); go_ret; exact ⟨by first | rfl | (simp [errW_none, errW_some] <;> rfl) | (simp only [← hji18]; first | rfl | (simp [errW_none, errW_some] <;> rfl)) | (simp [*, errW_none, errW_some] <;> rfl) | (simp [*, Go.Proofs.Ythkhflhmnjgbnaa.Gt.nil_bne]; done), bg_⟩
         ·rw [if_neg c22] at H; have c22b0 : decide (0 ≤ t1006) = false := decide_eq_false c22; clear c22; have H' := am_ H; clear H; have p1001 : 0 ≤ (x10_1 : Int) := od_; have q1001 : x10_1 < (l0.length : Int) := od_; obtain ⟨ad1001, A1001_0, c1001_0, A1001_1, c1001_1, e1001, hx1001_0, hx1001_1, hl1001_0, hi1001_0, hl1001_1, hi1001_1⟩ := at_T44 HR0.out x10_1 p1001 q1001
          cases e1001
          replace hx1001_0 := kp_ HB hx1001_0; replace hx1001_1 := kp_ HB hx1001_1; have HR1001_0 := am_ hi1001_0; have HC1001_0 := am_ hl1001_0; clear hi1001_0 hl1001_0; have HR1001_1 := am_ hi1001_1; have HC1001_1 := am_ hl1001_1; clear hi1001_1 hl1001_1; replace p1001 := eq_true p1001; replace q1001 := eq_true q1001; (try go_wp2_with (first | ((with_reducible refine gate_dst (N := 4) rfl ?_); (try (refine gate_guard (by rfl) ?_; dsimp only)); refine bx_ 4 #[.slice none 0 0, .slice none 0 0] 44 ?_; intro gb1002 hg w29 hbox hb; have BK1002 := am_ (hbox); have GW1002 := am_ (gs_ hg : w.heap.size ≤ gb1002); replace HB := am_ (below_step bl_ hb); have GE1002 := GW1002; clear hb hbox hg; have hz30 := bk2_ BK1002))); have n0_ : Aside0 (((w29.setCell ⟨gb1002, 0, none⟩ (.slice A1001_0 ((rd_T44 l0 x10_1).f0).length c1001_0)).setCell ⟨gb1002, 1, none⟩ (.slice A1001_1 ((rd_T44 l0 x10_1).f1).length c1001_1)).heap[gb1002]? = some (.cells #[.slice A1001_0 ((rd_T44 l0 x10_1).f0).length c1001_0, .slice A1001_1 ((rd_T44 l0 x10_1).f1).length c1001_1] 44 (0, 0))) := ⟨by (with_reducible repeat (first | refine blk_drewN ?_ _ | refine blk_drew ?_ | refine blk_alloc ?_ _)); refine blk_put (cs := #[.slice A1001_0 ((rd_T44 l0 x10_1).f0).length c1001_0, .slice none 0 0]) ?_ 1 _ rfl; (with_reducible repeat (first | refine blk_drewN ?_ _ | refine blk_drew ?_ | refine blk_alloc ?_ _)); refine blk_put (cs := #[.slice none 0 0, .slice none 0 0]) ?_ 0 _ rfl; (with_reducible repeat (first | refine blk_drewN ?_ _ | refine blk_drew ?_ | refine blk_alloc ?_ _)); exact BK1002.out⟩; have n1_ : Aside0 (Below w.heap.size w ((w29.setCell ⟨gb1002, 0, none⟩ (.slice A1001_0 ((rd_T44 l0 x10_1).f0).length c1001_0)).setCell ⟨gb1002, 1, none⟩ (.slice A1001_1 ((rd_T44 l0 x10_1).f1).length c1001_1))) := ⟨bg_⟩; (try clear BK1002); (try clear HB); generalize ((w29.setCell ⟨gb1002, 0, none⟩ (.slice A1001_0 ((rd_T44 l0 x10_1).f0).length c1001_0)).setCell ⟨gb1002, 1, none⟩ (.slice A1001_1 ((rd_T44 l0 x10_1).f1).length c1001_1)) = w31 at n0_ n1_ ⊢; have BK1002 := n0_; have HB := n1_; clear n0_ n1_; have n0_ := am_ (blk_drew BK1002.out); have n1_ := am_ (below_drew1 HB.out); clear BK1002; clear HB; have BK1002 := n0_; have HB := n1_; clear n0_ n1_; have p1005 : 0 ≤ ((ji18) : Int) := od_; have q1005 : (ji18) < (l0.length : Int) := od_; obtain ⟨ad1005, A1005_0, c1005_0, A1005_1, c1005_1, e1005, hx1005_0, hx1005_1, hl1005_0, hi1005_0, hl1005_1, hi1005_1⟩ := at_T44 HR0.out (ji18) p1005 q1005; have hw1005_1 := hx1005_1; have hw1005_0 := hx1005_0; obtain rfl : ad1001 = ad1005 := (by injection e1005); replace hx1005_0 := kp_ HB hx1005_0; replace hx1005_1 := kp_ HB hx1005_1; have HR1005_0 := am_ hi1005_0; have HC1005_0 := am_ hl1005_0; clear hi1005_0 hl1005_0; have HR1005_1 := am_ hi1005_1; have HC1005_1 := am_ hl1005_1; clear hi1005_1 hl1005_1; replace p1005 := eq_true p1005; replace q1005 := eq_true q1005; refine start_ (n := 32) (S := fun w' => w'.cell? ⟨gb1002, 0, none⟩ = some (.slice A1001_0 ((rd_T44 l0 x10_1).f0).length c1001_0) ∧ w'.cell? ⟨gb1002, 1, none⟩ = some (.slice A1001_1 ((rd_T44 l0 x10_1).f1).length c1001_1) ∧ w'.cell? (ad1001.add (((ji18)).toNat * 2)) = some (.slice A1005_0 ((rd_T44 l0 (ji18)).f0).length c1005_0) ∧ w'.cell? ⟨(ad1001.add (((ji18)).toNat * 2)).block, (ad1001.add (((ji18)).toNat * 2)).off + 1, none⟩ = some (.slice A1005_1 ((rd_T44 l0 (ji18)).f1).length c1005_1)) (ds := []) (bz 32 0) (by kernel_rfl) rfl rfl ⟨(blk_cell BK1002.out 0).trans rfl, (blk_cell BK1002.out 1).trans rfl, (kp_ HB hw1005_0 :), (kp_ HB hw1005_1 :)⟩ (fun hHeld => ?_); refine with_tabW spec_GoodSeries.tab6 spec_GoodSeries.bits6 (fun HT_ HW_ => ?_); generalize w31.drew = w32 at BK1002 HB HR1005_0 HR1005_1 hx1005_0 hx1005_1 hHeld ⊢; refine pz_ 0 15 1 ?_; refine tz_ 1 16 3 ?_; refine one_ (i := 2) (N := some 17) (bz 32 7) rfl rfl (one_of HT_.out (by kernel_rfl)) (by decide) (fun K hK => ?_); refine goes_ Try.func36 (by kernel_rfl) rfl #[.slice A1001_0 ((rd_T44 l0 x10_1).f0).length c1001_0] (by rfl) rfl rfl ag_ ?_; (with_reducible refine (spec_l7Named.calls k1 _ _ ((rd_T44 l0 x10_1).f0) true _ ?side1 ?side2 A6.out).mono ?_); (case side1 => exact cc_ (Kd.C_below HR1001_0.out HB.out)); (case side2 => exact HC1001_0.out); rintro e w33 ⟨rfl, hb⟩; refine ⟨_, rfl, ?_⟩; have n0_ := am_ (blk_below (g := gb1002) (vk_ BK1002) hb); have n1_ := am_ (below_step bg_ hb); clear BK1002; clear HB; have BK1002 := n0_; have HB := n1_; clear n0_ n1_; (try clear hb); (try clear hb2); (try clear hk); (try clear hi); refine hK.out _ _ ⟨(blk_cell BK1002.out 0).trans rfl, (blk_cell BK1002.out 1).trans rfl, (kp_ HB hw1005_0 :), (kp_ HB hw1005_1 :)⟩ (fun hHeld => ?_); clear hK K; refine norm_ (a' := ?_) ?_ ?_; rotate_left
          ·show Act.put _ (some 17) _ = _; simp only [Act.put, List.setIfInBounds_toArray, List.set_cons_zero, List.set_cons_succ, i64_w, i32_w]; rfl
          refine pz_ 3 18 15 ?_; refine pz_ 4 19 31 ?_; refine pz_ 5 20 63 ?_; refine tz_ 6 21 127 ?_; refine one_ (i := 7) (N := some 22) (bz 32 255) rfl rfl (one_of HT_.out (by kernel_rfl)) (by decide) (fun K hK => ?_); refine goes_ Try.func37 (by kernel_rfl) rfl #[.slice A1001_1 ((rd_T44 l0 x10_1).f1).length c1001_1] (by rfl) rfl rfl ag_ ?_; (with_reducible refine (spec_GoodSamples.calls k1 _ _ ((rd_T44 l0 x10_1).f1) true _ ?side1 ?side2 A8.out).mono ?_); (case side1 => exact cc_ (Kd.C_below HR1001_1.out HB.out)); (case side2 => exact HC1001_1.out); rintro e w34 ⟨rfl, hb⟩; refine ⟨_, rfl, ?_⟩; have n0_ := am_ (blk_below (g := gb1002) (vk_ BK1002) hb); have n1_ := am_ (below_step bg_ hb); clear BK1002; clear HB; have BK1002 := n0_; have HB := n1_; clear n0_ n1_; (try clear hb); (try clear hb2); (try clear hk); (try clear hi); refine hK.out _ _ ⟨(blk_cell BK1002.out 0).trans rfl, (blk_cell BK1002.out 1).trans rfl, (kp_ HB hw1005_0 :), (kp_ HB hw1005_1 :)⟩ (fun hHeld => ?_); clear hK K; refine norm_ (a' := ?_) ?_ ?_; rotate_left
          ·show Act.put _ (some 22) _ = _; simp only [Act.put, List.setIfInBounds_toArray, List.set_cons_zero, List.set_cons_succ, i64_w, i32_w]; rfl
          refine pz_ 8 23 511 ?_; refine pz_ 9 24 1023 ?_; refine pz_ 10 25 2047 ?_; refine pz_ 11 26 4095 ?_; refine tz_ 12 27 8191 ?_; refine pz_ 13 28 16383 ?_; refine pz_ 14 29 32767 ?_; refine pz_ 15 30 65535 ?_; refine pz_ 16 31 131071 ?_; refine pz_ 17 32 262143 ?_; refine pz_ 18 33 524287 ?_; refine pz_ 19 34 1048575 ?_; refine pz_ 20 35 2097151 ?_; refine pz_ 21 36 4194303 ?_; refine pz_ 22 37 8388607 ?_; refine pz_ 23 38 16777215 ?_; refine pz_ 24 39 33554431 ?_; refine pz_ 26 41 100663295 ?_; refine tz_ 25 40 134217727 ?_; refine tz_ 27 42 268435455 ?_; refine one_ (i := 28) (N := some 43) (bz 32 536870911) rfl rfl (one_of HT_.out (by kernel_rfl)) (by decide) (fun K hK => ?_); refine goes_ Try.func38 (by kernel_rfl) rfl #[.slice A1005_0 ((rd_T44 l0 (ji18)).f0).length c1005_0, .slice A1001_0 ((rd_T44 l0 x10_1).f0).length c1001_0] (by rfl) rfl rfl (by (try simp only [List.map_toArray, List.map_cons, List.map_nil]); first | done | (simp only [hji18]; rfl) | rfl | (simp only [List.length_drop, List.length_take]; rfl)) ?_; (with_reducible refine (spec_l2Cmp.calls k1 _ _ ((rd_T44 l0 (ji18)).f0) _ _ ((rd_T44 l0 x10_1).f0) t1006 _ ?side1 ?side2 ?side3 ?side4 A21.out).mono ?_); (case side1 => exact cc_ (Kd.C_below HR1005_0.out HB.out)); (case side2 => exact HC1005_0.out); (case side3 => exact cc_ (Kd.C_below HR1001_0.out HB.out)); (case side4 => exact HC1001_0.out); rintro e w' ⟨rfl, ⟨nd, rfl⟩⟩; refine ⟨_, rfl, ?_⟩; refine hK.out _ _ ⟨(blk_cell BK1002.out 0).trans rfl, (blk_cell BK1002.out 1).trans rfl, (kp_ HB hw1005_0 :), (kp_ HB hw1005_1 :)⟩ (fun hHeld => ?_); clear hK K; refine norm_ (a' := ?_) ?_ ?_; rotate_left
          ·show Act.put _ (some 43) _ = _; simp only [Act.put, List.setIfInBounds_toArray, List.set_cons_zero, List.set_cons_succ, i64_w, i32_w]; rfl
          refine pz_ 29 44 1073741823 ?_; refine pz_ 30 45 2147483647 ?_; refine pz_ 31 46 4294967295 ?_; refine done_ (done_of HT_.out (by kernel_rfl)) ?_; (try go_wp2); go_roundg k1
          case measure => have := HK1.out; omega
          case rel => exact ⟨(wrap64 (x10_1 + 1)), rs_, H', ⟨by have := HK1.out; omega⟩, ⟨bg_⟩⟩
        ·rw [if_neg c17] at H; have c17b0 := df_ c17; clear c17; have H' := am_ H; clear H; have p1001 : 0 ≤ (x10_1 : Int) := od_; have q1001 : x10_1 < (l0.length : Int) := od_; obtain ⟨ad1001, A1001_0, c1001_0, A1001_1, c1001_1, e1001, hx1001_0, hx1001_1, hl1001_0, hi1001_0, hl1001_1, hi1001_1⟩ := at_T44 HR0.out x10_1 p1001 q1001
         cases e1001
         replace hx1001_0 := kp_ HB hx1001_0; replace hx1001_1 := kp_ HB hx1001_1; have HR1001_0 := am_ hi1001_0; have HC1001_0 := am_ hl1001_0; clear hi1001_0 hl1001_0; have HR1001_1 := am_ hi1001_1; have HC1001_1 := am_ hl1001_1; clear hi1001_1 hl1001_1; replace p1001 := eq_true p1001; replace q1001 := eq_true q1001; (try go_wp2_with (first | ((with_reducible refine gate_dst (N := 4) rfl ?_); (try (refine gate_guard (by rfl) ?_; dsimp only)); refine bx_ 4 #[.slice none 0 0, .slice none 0 0] 44 ?_; intro gb1002 hg w35 hbox hb; have BK1002 := am_ (hbox); have GW1002 := am_ (gs_ hg : w.heap.size ≤ gb1002); replace HB := am_ (below_step bl_ hb); have GE1002 := GW1002; clear hb hbox hg; have hz36 := bk2_ BK1002))); have n0_ : Aside0 (((w35.setCell ⟨gb1002, 0, none⟩ (.slice A1001_0 ((rd_T44 l0 x10_1).f0).length c1001_0)).setCell ⟨gb1002, 1, none⟩ (.slice A1001_1 ((rd_T44 l0 x10_1).f1).length c1001_1)).heap[gb1002]? = some (.cells #[.slice A1001_0 ((rd_T44 l0 x10_1).f0).length c1001_0, .slice A1001_1 ((rd_T44 l0 x10_1).f1).length c1001_1] 44 (0, 0))) := ⟨by (with_reducible repeat (first | refine blk_drewN ?_ _ | refine blk_drew ?_ | refine blk_alloc ?_ _)); refine blk_put (cs := #[.slice A1001_0 ((rd_T44 l0 x10_1).f0).length c1001_0, .slice none 0 0]) ?_ 1 _ rfl; (with_reducible repeat (first | refine blk_drewN ?_ _ | refine blk_drew ?_ | refine blk_alloc ?_ _)); refine blk_put (cs := #[.slice none 0 0, .slice none 0 0]) ?_ 0 _ rfl; (with_reducible repeat (first | refine blk_drewN ?_ _ | refine blk_drew ?_ | refine blk_alloc ?_ _)); exact BK1002.out⟩; have n1_ : Aside0 (Below w.heap.size w ((w35.setCell ⟨gb1002, 0, none⟩ (.slice A1001_0 ((rd_T44 l0 x10_1).f0).length c1001_0)).setCell ⟨gb1002, 1, none⟩ (.slice A1001_1 ((rd_T44 l0 x10_1).f1).length c1001_1))) := ⟨bg_⟩; (try clear BK1002); (try clear HB); generalize ((w35.setCell ⟨gb1002, 0, none⟩ (.slice A1001_0 ((rd_T44 l0 x10_1).f0).length c1001_0)).setCell ⟨gb1002, 1, none⟩ (.slice A1001_1 ((rd_T44 l0 x10_1).f1).length c1001_1)) = w37 at n0_ n1_ ⊢; have BK1002 := n0_; have HB := n1_; clear n0_ n1_; have n0_ := am_ (blk_drew BK1002.out); have n1_ := am_ (below_drew1 HB.out); clear BK1002; clear HB; have BK1002 := n0_; have HB := n1_; clear n0_ n1_; refine start_ (n := 32) (S := fun w' => w'.cell? ⟨gb1002, 0, none⟩ = some (.slice A1001_0 ((rd_T44 l0 x10_1).f0).length c1001_0) ∧ w'.cell? ⟨gb1002, 1, none⟩ = some (.slice A1001_1 ((rd_T44 l0 x10_1).f1).length c1001_1)) (ds := []) (bz 32 0) (by kernel_rfl) rfl rfl ⟨(blk_cell BK1002.out 0).trans rfl, (blk_cell BK1002.out 1).trans rfl⟩ (fun hHeld => ?_); refine with_tabW spec_GoodSeries.tab6 spec_GoodSeries.bits6 (fun HT_ HW_ => ?_); generalize w37.drew = w38 at BK1002 HB hHeld ⊢; refine pz_ 0 15 1 ?_; refine tz_ 1 16 3 ?_; refine one_ (i := 2) (N := some 17) (bz 32 7) rfl rfl (one_of HT_.out (by kernel_rfl)) (by decide) (fun K hK => ?_); refine goes_ Try.func36 (by kernel_rfl) rfl #[.slice A1001_0 ((rd_T44 l0 x10_1).f0).length c1001_0] (by rfl) rfl rfl ag_ ?_; (with_reducible refine (spec_l7Named.calls k1 _ _ ((rd_T44 l0 x10_1).f0) true _ ?side1 ?side2 A6.out).mono ?_); (case side1 => exact cc_ (Kd.C_below HR1001_0.out HB.out)); (case side2 => exact HC1001_0.out); rintro e w39 ⟨rfl, hb⟩; refine ⟨_, rfl, ?_⟩; have n0_ := am_ (blk_below (g := gb1002) (vk_ BK1002) hb); have n1_ := am_ (below_step bg_ hb); clear BK1002; clear HB; have BK1002 := n0_; have HB := n1_; clear n0_ n1_; (try clear hb); (try clear hb2); (try clear hk); (try clear hi); refine hK.out _ _ ⟨(blk_cell BK1002.out 0).trans rfl, (blk_cell BK1002.out 1).trans rfl⟩ (fun hHeld => ?_); clear hK K; refine norm_ (a' := ?_) ?_ ?_; rotate_left
         ·show Act.put _ (some 17) _ = _; simp only [Act.put, List.setIfInBounds_toArray, List.set_cons_zero, List.set_cons_succ, i64_w, i32_w]; rfl
         refine pz_ 3 18 15 ?_; refine pz_ 4 19 31 ?_; refine pz_ 5 20 63 ?_; refine tz_ 6 21 127 ?_; refine one_ (i := 7) (N := some 22) (bz 32 255) rfl rfl (one_of HT_.out (by kernel_rfl)) (by decide) (fun K hK => ?_); refine goes_ Try.func37 (by kernel_rfl) rfl #[.slice A1001_1 ((rd_T44 l0 x10_1).f1).length c1001_1] (by rfl) rfl rfl ag_ ?_; (with_reducible refine (spec_GoodSamples.calls k1 _ _ ((rd_T44 l0 x10_1).f1) true _ ?side1 ?side2 A8.out).mono ?_); (case side1 => exact cc_ (Kd.C_below HR1001_1.out HB.out)); (case side2 => exact HC1001_1.out); rintro e w40 ⟨rfl, hb⟩; refine ⟨_, rfl, ?_⟩; have n0_ := am_ (blk_below (g := gb1002) (vk_ BK1002) hb); have n1_ := am_ (below_step bg_ hb); clear BK1002; clear HB; have BK1002 := n0_; have HB := n1_; clear n0_ n1_; (try clear hb); (try clear hb2); (try clear hk); (try clear hi); refine hK.out _ _ ⟨(blk_cell BK1002.out 0).trans rfl, (blk_cell BK1002.out 1).trans rfl⟩ (fun hHeld => ?_); clear hK K; refine norm_ (a' := ?_) ?_ ?_; rotate_left
         ·show Act.put _ (some 22) _ = _; simp only [Act.put, List.setIfInBounds_toArray, List.set_cons_zero, List.set_cons_succ, i64_w, i32_w]; rfl
         refine pz_ 8 23 511 ?_; refine pz_ 9 24 1023 ?_; refine pz_ 10 25 2047 ?_; refine pz_ 11 26 4095 ?_; refine tz_ 12 27 8191 ?_; refine pz_ 13 28 16383 ?_; refine pz_ 14 29 32767 ?_; refine pz_ 15 30 65535 ?_; refine pz_ 16 31 131071 ?_; refine pz_ 17 32 262143 ?_; refine pz_ 18 33 524287 ?_; refine pz_ 19 34 1048575 ?_; refine uz_ 20 35 2097151 ?_; refine uz_ 21 36 4194303 ?_; refine uz_ 22 37 8388607 ?_; refine uz_ 23 38 16777215 ?_; refine uz_ 24 39 33554431 ?_; refine uz_ 25 40 67108863 ?_; refine uz_ 26 41 134217727 ?_; refine uz_ 27 42 268435455 ?_; refine uz_ 28 43 536870911 ?_; refine uz_ 29 44 1073741823 ?_; refine pz_ 30 45 2147483647 ?_; refine pz_ 31 46 4294967295 ?_; refine done_ (done_of HT_.out (by kernel_rfl)) ?_; (try go_wp2); go_roundg k1
         case measure => have := HK1.out; omega
         case rel => exact ⟨(wrap64 (x10_1 + 1)), rs_, H', ⟨by have := HK1.out; omega⟩, ⟨bg_⟩⟩
      ·replace c9 := Bool.eq_false_iff.mpr c9; subst c9; replace H := if_ H; obtain rfl := si_ H; have p1001 : 0 ≤ (x10_1 : Int) := od_; have q1001 : x10_1 < (l0.length : Int) := od_; obtain ⟨ad1001, A1001_0, c1001_0, A1001_1, c1001_1, e1001, hx1001_0, hx1001_1, hl1001_0, hi1001_0, hl1001_1, hi1001_1⟩ := at_T44 HR0.out x10_1 p1001 q1001
       cases e1001
       replace hx1001_0 := kp_ HB hx1001_0; replace hx1001_1 := kp_ HB hx1001_1; have HR1001_0 := am_ hi1001_0; have HC1001_0 := am_ hl1001_0; clear hi1001_0 hl1001_0; have HR1001_1 := am_ hi1001_1; have HC1001_1 := am_ hl1001_1; clear hi1001_1 hl1001_1; replace p1001 := eq_true p1001; replace q1001 := eq_true q1001; (try go_wp2_with (first | ((with_reducible refine gate_dst (N := 4) rfl ?_); (try (refine gate_guard (by rfl) ?_; dsimp only)); refine bx_ 4 #[.slice none 0 0, .slice none 0 0] 44 ?_; intro gb1002 hg w41 hbox hb; have BK1002 := am_ (hbox); have GW1002 := am_ (gs_ hg : w.heap.size ≤ gb1002); replace HB := am_ (below_step bl_ hb); have GE1002 := GW1002; clear hb hbox hg; have hz42 := bk2_ BK1002))); have n0_ : Aside0 (((w41.setCell ⟨gb1002, 0, none⟩ (.slice A1001_0 ((rd_T44 l0 x10_1).f0).length c1001_0)).setCell ⟨gb1002, 1, none⟩ (.slice A1001_1 ((rd_T44 l0 x10_1).f1).length c1001_1)).heap[gb1002]? = some (.cells #[.slice A1001_0 ((rd_T44 l0 x10_1).f0).length c1001_0, .slice A1001_1 ((rd_T44 l0 x10_1).f1).length c1001_1] 44 (0, 0))) := ⟨by (with_reducible repeat (first | refine blk_drewN ?_ _ | refine blk_drew ?_ | refine blk_alloc ?_ _)); refine blk_put (cs := #[.slice A1001_0 ((rd_T44 l0 x10_1).f0).length c1001_0, .slice none 0 0]) ?_ 1 _ rfl; (with_reducible repeat (first | refine blk_drewN ?_ _ | refine blk_drew ?_ | refine blk_alloc ?_ _)); refine blk_put (cs := #[.slice none 0 0, .slice none 0 0]) ?_ 0 _ rfl; (with_reducible repeat (first | refine blk_drewN ?_ _ | refine blk_drew ?_ | refine blk_alloc ?_ _)); exact BK1002.out⟩; have n1_ : Aside0 (Below w.heap.size w ((w41.setCell ⟨gb1002, 0, none⟩ (.slice A1001_0 ((rd_T44 l0 x10_1).f0).length c1001_0)).setCell ⟨gb1002, 1, none⟩ (.slice A1001_1 ((rd_T44 l0 x10_1).f1).length c1001_1))) := ⟨bg_⟩; (try clear BK1002); (try clear HB); generalize ((w41.setCell ⟨gb1002, 0, none⟩ (.slice A1001_0 ((rd_T44 l0 x10_1).f0).length c1001_0)).setCell ⟨gb1002, 1, none⟩ (.slice A1001_1 ((rd_T44 l0 x10_1).f1).length c1001_1)) = w43 at n0_ n1_ ⊢; have BK1002 := n0_; have HB := n1_; clear n0_ n1_; have n0_ := am_ (blk_drew BK1002.out); have n1_ := am_ (below_drew1 HB.out); clear BK1002; clear HB; have BK1002 := n0_; have HB := n1_; clear n0_ n1_; refine start_ (n := 32) (S := fun w' => w'.cell? ⟨gb1002, 0, none⟩ = some (.slice A1001_0 ((rd_T44 l0 x10_1).f0).length c1001_0) ∧ w'.cell? ⟨gb1002, 1, none⟩ = some (.slice A1001_1 ((rd_T44 l0 x10_1).f1).length c1001_1)) (ds := []) (bz 32 0) (by kernel_rfl) rfl rfl ⟨(blk_cell BK1002.out 0).trans rfl, (blk_cell BK1002.out 1).trans rfl⟩ (fun hHeld => ?_); refine with_tabW spec_GoodSeries.tab6 spec_GoodSeries.bits6 (fun HT_ HW_ => ?_); generalize w43.drew = w44 at BK1002 HB hHeld ⊢; refine pz_ 0 15 1 ?_; refine tz_ 1 16 3 ?_; refine one_ (i := 2) (N := some 17) (bz 32 7) rfl rfl (one_of HT_.out (by kernel_rfl)) (by decide) (fun K hK => ?_); refine goes_ Try.func36 (by kernel_rfl) rfl #[.slice A1001_0 ((rd_T44 l0 x10_1).f0).length c1001_0] (by rfl) rfl rfl ag_ ?_; (with_reducible refine (spec_l7Named.calls k1 _ _ ((rd_T44 l0 x10_1).f0) true _ ?side1 ?side2 A6.out).mono ?_); (case side1 => exact cc_ (Kd.C_below HR1001_0.out HB.out)); (case side2 => exact HC1001_0.out); rintro e w45 ⟨rfl, hb⟩; refine ⟨_, rfl, ?_⟩; have n0_ := am_ (blk_below (g := gb1002) (vk_ BK1002) hb); have n1_ := am_ (below_step bg_ hb); clear BK1002; clear HB; have BK1002 := n0_; have HB := n1_; clear n0_ n1_; (try clear hb); (try clear hb2); (try clear hk); (try clear hi); refine hK.out _ _ ⟨(blk_cell BK1002.out 0).trans rfl, (blk_cell BK1002.out 1).trans rfl⟩ (fun hHeld => ?_); clear hK K; refine norm_ (a' := ?_) ?_ ?_; rotate_left
       ·show Act.put _ (some 17) _ = _; simp only [Act.put, List.setIfInBounds_toArray, List.set_cons_zero, List.set_cons_succ, i64_w, i32_w]; rfl
       refine pz_ 3 18 15 ?_; refine pz_ 4 19 31 ?_; refine pz_ 5 20 63 ?_; refine tz_ 6 21 127 ?_; refine one_ (i := 7) (N := some 22) (bz 32 255) rfl rfl (one_of HT_.out (by kernel_rfl)) (by decide) (fun K hK => ?_); refine goes_ Try.func37 (by kernel_rfl) rfl #[.slice A1001_1 ((rd_T44 l0 x10_1).f1).length c1001_1] (by rfl) rfl rfl ag_ ?_; (with_reducible refine (spec_GoodSamples.calls k1 _ _ ((rd_T44 l0 x10_1).f1) false _ ?side1 ?side2 A8.out).mono ?_); (case side1 => exact cc_ (Kd.C_below HR1001_1.out HB.out)); (case side2 => exact HC1001_1.out); rintro e w46 ⟨rfl, hb⟩; refine ⟨_, rfl, ?_⟩; have n0_ := am_ (blk_below (g := gb1002) (vk_ BK1002) hb); have n1_ := am_ (below_step bg_ hb); clear BK1002; clear HB; have BK1002 := n0_; have HB := n1_; clear n0_ n1_; (try clear hb); (try clear hb2); (try clear hk); (try clear hi); refine hK.out _ _ ⟨(blk_cell BK1002.out 0).trans rfl, (blk_cell BK1002.out 1).trans rfl⟩ (fun hHeld => ?_); clear hK K; refine norm_ (a' := ?_) ?_ ?_; rotate_left
       ·show Act.put _ (some 22) _ = _; simp only [Act.put, List.setIfInBounds_toArray, List.set_cons_zero, List.set_cons_succ, i64_w, i32_w]; rfl
       refine pz_ 8 23 511 ?_; refine pz_ 9 24 1023 ?_; refine pz_ 10 25 2047 ?_; refine uz_ 11 26 4095 ?_; refine uz_ 12 27 8191 ?_; refine uz_ 13 28 16383 ?_; refine uz_ 14 29 32767 ?_; refine pz_ 15 30 65535 ?_; refine pz_ 16 31 131071 ?_; refine uz_ 17 32 262143 ?_; refine uz_ 18 33 524287 ?_; refine uz_ 19 34 1048575 ?_; refine uz_ 20 35 2097151 ?_; refine uz_ 21 36 4194303 ?_; refine uz_ 22 37 8388607 ?_; refine uz_ 23 38 16777215 ?_; refine uz_ 24 39 33554431 ?_; refine uz_ 25 40 67108863 ?_; refine uz_ 26 41 134217727 ?_; refine uz_ 27 42 268435455 ?_; refine uz_ 28 43 536870911 ?_; refine uz_ 29 44 1073741823 ?_; refine uz_ 30 45 2147483647 ?_; refine pz_ 31 46 4294967295 ?_; refine done_ (done_of HT_.out (by kernel_rfl)) ?_; (try go_wp2); go_ret; exact ⟨rf_, bg_⟩
     ·replace c7 := Bool.eq_false_iff.mpr c7; subst c7; replace H := if_ H; obtain rfl := si_ H; have p1001 : 0 ≤ (x10_1 : Int) := od_; have q1001 : x10_1 < (l0.length : Int) := od_; obtain ⟨ad1001, A1001_0, c1001_0, A1001_1, c1001_1, e1001, hx1001_0, hx1001_1, hl1001_0, hi1001_0, hl1001_1, hi1001_1⟩ := at_T44 HR0.out x10_1 p1001 q1001
      cases e1001
      replace hx1001_0 := kp_ HB hx1001_0; replace hx1001_1 := kp_ HB hx1001_1; have HR1001_0 := am_ hi1001_0; have HC1001_0 := am_ hl1001_0; clear hi1001_0 hl1001_0; have HR1001_1 := am_ hi1001_1; have HC1001_1 := am_ hl1001_1; clear hi1001_1 hl1001_1; replace p1001 := eq_true p1001; replace q1001 := eq_true q1001; (try go_wp2_with (first | ((with_reducible refine gate_dst (N := 4) rfl ?_); (try (refine gate_guard (by rfl) ?_; dsimp only)); refine bx_ 4 #[.slice none 0 0, .slice none 0 0] 44 ?_; intro gb1002 hg w47 hbox hb; have BK1002 := am_ (hbox); have GW1002 := am_ (gs_ hg : w.heap.size ≤ gb1002); replace HB := am_ (below_step bl_ hb); have GE1002 := GW1002; clear hb hbox hg; have hz48 := bk2_ BK1002))); have n0_ : Aside0 (((w47.setCell ⟨gb1002, 0, none⟩ (.slice A1001_0 ((rd_T44 l0 x10_1).f0).length c1001_0)).setCell ⟨gb1002, 1, none⟩ (.slice A1001_1 ((rd_T44 l0 x10_1).f1).length c1001_1)).heap[gb1002]? = some (.cells #[.slice A1001_0 ((rd_T44 l0 x10_1).f0).length c1001_0, .slice A1001_1 ((rd_T44 l0 x10_1).f1).length c1001_1] 44 (0, 0))) := ⟨by (with_reducible repeat (first | refine blk_drewN ?_ _ | refine blk_drew ?_ | refine blk_alloc ?_ _)); refine blk_put (cs := #[.slice A1001_0 ((rd_T44 l0 x10_1).f0).length c1001_0, .slice none 0 0]) ?_ 1 _ rfl; (with_reducible repeat (first | refine blk_drewN ?_ _ | refine blk_drew ?_ | refine blk_alloc ?_ _)); refine blk_put (cs := #[.slice none 0 0, .slice none 0 0]) ?_ 0 _ rfl; (with_reducible repeat (first | refine blk_drewN ?_ _ | refine blk_drew ?_ | refine blk_alloc ?_ _)); exact BK1002.out⟩; have n1_ : Aside0 (Below w.heap.size w ((w47.setCell ⟨gb1002, 0, none⟩ (.slice A1001_0 ((rd_T44 l0 x10_1).f0).length c1001_0)).setCell ⟨gb1002, 1, none⟩ (.slice A1001_1 ((rd_T44 l0 x10_1).f1).length c1001_1))) := ⟨bg_⟩; (try clear BK1002); (try clear HB); generalize ((w47.setCell ⟨gb1002, 0, none⟩ (.slice A1001_0 ((rd_T44 l0 x10_1).f0).length c1001_0)).setCell ⟨gb1002, 1, none⟩ (.slice A1001_1 ((rd_T44 l0 x10_1).f1).length c1001_1)) = w49 at n0_ n1_ ⊢; have BK1002 := n0_; have HB := n1_; clear n0_ n1_; have n0_ := am_ (blk_drew BK1002.out); have n1_ := am_ (below_drew1 HB.out); clear BK1002; clear HB; have BK1002 := n0_; have HB := n1_; clear n0_ n1_; refine start_ (n := 32) (S := fun w' => w'.cell? ⟨gb1002, 0, none⟩ = some (.slice A1001_0 ((rd_T44 l0 x10_1).f0).length c1001_0) ∧ w'.cell? ⟨gb1002, 1, none⟩ = some (.slice A1001_1 ((rd_T44 l0 x10_1).f1).length c1001_1)) (ds := []) (bz 32 0) (by kernel_rfl) rfl rfl ⟨(blk_cell BK1002.out 0).trans rfl, (blk_cell BK1002.out 1).trans rfl⟩ (fun hHeld => ?_); refine with_tabW spec_GoodSeries.tab6 spec_GoodSeries.bits6 (fun HT_ HW_ => ?_); generalize w49.drew = w50 at BK1002 HB hHeld ⊢; refine pz_ 0 15 1 ?_; refine tz_ 1 16 3 ?_; refine one_ (i := 2) (N := some 17) (bz 32 7) rfl rfl (one_of HT_.out (by kernel_rfl)) (by decide) (fun K hK => ?_); refine goes_ Try.func36 (by kernel_rfl) rfl #[.slice A1001_0 ((rd_T44 l0 x10_1).f0).length c1001_0] (by rfl) rfl rfl ag_ ?_; (with_reducible refine (spec_l7Named.calls k1 _ _ ((rd_T44 l0 x10_1).f0) false _ ?side1 ?side2 A6.out).mono ?_); (case side1 => exact cc_ (Kd.C_below HR1001_0.out HB.out)); (case side2 => exact HC1001_0.out); rintro e w51 ⟨rfl, hb⟩; refine ⟨_, rfl, ?_⟩; have n0_ := am_ (blk_below (g := gb1002) (vk_ BK1002) hb); have n1_ := am_ (below_step bg_ hb); clear BK1002; clear HB; have BK1002 := n0_; have HB := n1_; clear n0_ n1_; (try clear hb); (try clear hb2); (try clear hk); (try clear hi); refine hK.out _ _ ⟨(blk_cell BK1002.out 0).trans rfl, (blk_cell BK1002.out 1).trans rfl⟩ (fun hHeld => ?_); clear hK K; refine norm_ (a' := ?_) ?_ ?_; rotate_left
      ·show Act.put _ (some 17) _ = _; simp only [Act.put, List.setIfInBounds_toArray, List.set_cons_zero, List.set_cons_succ, i64_w, i32_w]; rfl
      refine pz_ 3 18 15 ?_; refine pz_ 4 19 31 ?_; refine uz_ 5 20 63 ?_; refine uz_ 6 21 127 ?_; refine uz_ 7 22 255 ?_; refine uz_ 8 23 511 ?_; refine pz_ 9 24 1023 ?_; refine pz_ 10 25 2047 ?_; refine uz_ 11 26 4095 ?_; refine uz_ 12 27 8191 ?_; refine uz_ 13 28 16383 ?_; refine uz_ 14 29 32767 ?_; refine pz_ 15 30 65535 ?_; refine pz_ 16 31 131071 ?_; refine uz_ 17 32 262143 ?_; refine uz_ 18 33 524287 ?_; refine uz_ 19 34 1048575 ?_; refine uz_ 20 35 2097151 ?_; refine uz_ 21 36 4194303 ?_; refine uz_ 22 37 8388607 ?_; refine uz_ 23 38 16777215 ?_; refine uz_ 24 39 33554431 ?_; refine uz_ 25 40 67108863 ?_; refine uz_ 26 41 134217727 ?_; refine uz_ 27 42 268435455 ?_; refine uz_ 28 43 536870911 ?_; refine uz_ 29 44 1073741823 ?_; refine uz_ 30 45 2147483647 ?_; refine pz_ 31 46 4294967295 ?_; refine done_ (done_of HT_.out (by kernel_rfl)) ?_; (try go_wp2); go_ret; exact ⟨rf_, bg_⟩
    ·rw [if_neg c3] at H; have c3b0 := decide_eq_false c3; clear c3; obtain rfl := si_ H; go_wp2; go_ret; exact ⟨rf_, bl_⟩

end Go.Proofs.Ythkhflhmnjgbnaa.Pr
