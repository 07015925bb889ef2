/- Functions of the given program as plain Lean functions, and that the machine's calls come to them; written by a program of this session; no condition but those that each theorem states. -/
import Derived.Test.YtknlgignjbghkaaPrx0
import Derived.Test.YtknlgignjbghkaaPrxg5da37n1
import Derived.Test.YtknlgignjbghkaaPrxg97d69n1
import Derived.Test.YtknlgignjbghkaaPrxg61164n2
import Derived.Test.YtknlgignjbghkaaPrxg61164n3
namespace Go.Proofs.Ytknlgignjbghkaa.Pr
open Go.RowKit Go.Proofs.YtknlgignjbghkaaW.PrintWords Go.Proofs.YtknlgignjbghkaaW.PrintLast Go.Proofs.YtknlgignjbghkaaW.PrintMore
attribute [local go_sem] max2_int min2_int max_two min_two max_three min_three max_four min_four   -- for this text's walks alone
set_option linter.unusedVariables false
set_option linter.unusedSimpArgs false

/-! ### impl_GoodBlock: function 11 -/
mutual
def impl_GoodBlock.j0 : Nat → Bool → Int → Int → Int → List (S83) → List (S87) → Option (Bool)
 | 0, _, _, _, _, _, _ => none
 | k + 1, x48, x1002000, x1002001, x1002002, x1002003, x1002004 => if x48 = true then (some false) else (impl_GoodBlock.l0 k x1002003 (x1002003.length : Int) 0 x1002000 x1002001 x1002002 x1002003 x1002004)
def impl_GoodBlock.l0 : Nat → List (S83) → Int → Int → Int → Int → Int → List (S83) → List (S87) → Option (Bool)
 | 0, _, _, _, _, _, _, _, _ => none
 | k + 1, x50, x51, x52, x1002000, x1002001, x1002002, x1002003, x1002004 => if x52 < x51 then (if 0 ≤ x52 then (if x52 < (x50.length : Int) then (if 0 < (((rd_T83 x50 x52).f1).length : Int) then (if ((rd_T85 ((rd_T83 x50 x52).f1) 0).f0) < x1002000 then (some false) else (if 0 ≤ (wrap64 ((((rd_T83 x50 x52).f1).length : Int) - 1)) then (if (wrap64 ((((rd_T83 x50 x52).f1).length : Int) - 1)) < (((rd_T83 x50 x52).f1).length : Int) then (if ((rd_T85 ((rd_T83 x50 x52).f1) (wrap64 ((((rd_T83 x50 x52).f1).length : Int) - 1))).f0) ≥ x1002001 then (some false) else (impl_GoodBlock.l0 k x50 x51 (wrap64 (x52 + 1)) x1002000 x1002001 x1002002 x1002003 x1002004)) else (none)) else (none))) else (none)) else (none)) else (none)) else (impl_GoodBlock.l1 k x1002004 (x1002004.length : Int) 0 x1002000 x1002001 x1002002 x1002003 x1002004)
def impl_GoodBlock.l1 : Nat → List (S87) → Int → Int → Int → Int → Int → List (S83) → List (S87) → Option (Bool)
 | 0, _, _, _, _, _, _, _, _ => none
 | k + 1, x80, x81, x82, x1002000, x1002001, x1002002, x1002003, x1002004 => if x82 < x81 then (if 0 ≤ x82 then (if x82 < (x80.length : Int) then ((impl_GoodLabels.f k ((rd_T87 x80 x82).f0)).bind fun t1010 => (if t1010 = true then (if ((rd_T87 x80 x82).f1) < x1002000 then (impl_GoodBlock.j3 k x82 x80 x81 x82 true x1002000 x1002001 x1002002 x1002003 x1002004 ((rd_T87 x80 x82).f0) ((rd_T87 x80 x82).f1) ((rd_T87 x80 x82).f2)) else (if ((rd_T87 x80 x82).f2) ≥ x1002001 then (impl_GoodBlock.j3 k x82 x80 x81 x82 true x1002000 x1002001 x1002002 x1002003 x1002004 ((rd_T87 x80 x82).f0) ((rd_T87 x80 x82).f1) ((rd_T87 x80 x82).f2)) else (impl_GoodBlock.j3 k x82 x80 x81 x82 (decide (((rd_T87 x80 x82).f1) > ((rd_T87 x80 x82).f2))) x1002000 x1002001 x1002002 x1002003 x1002004 ((rd_T87 x80 x82).f0) ((rd_T87 x80 x82).f1) ((rd_T87 x80 x82).f2)))) else (impl_GoodBlock.j3 k x82 x80 x81 x82 true x1002000 x1002001 x1002002 x1002003 x1002004 ((rd_T87 x80 x82).f0) ((rd_T87 x80 x82).f1) ((rd_T87 x80 x82).f2)))) else (none)) else (none)) else (some true)
def impl_GoodBlock.j3 : Nat → Int → List (S87) → Int → Int → Bool → Int → Int → Int → List (S83) → List (S87) → List (S108) → Int → Int → Option (Bool)
 | 0, _, _, _, _, _, _, _, _, _, _, _, _, _ => none
 | k + 1, x5, x80, x81, x82, x111, x1002000, x1002001, x1002002, x1002003, x1002004, x1010000, x1010001, x1010002 => if x111 = true then (some false) else ((impl_findSeries.f k x1002003 x1010000).bind fun bt1011 => (if bt1011.2 = true then (if x5 = 0 then (impl_GoodBlock.l1 k x80 x81 (wrap64 (x82 + 1)) x1002000 x1002001 x1002002 x1002003 x1002004) else (if 0 ≤ (wrap64 (x5 - 1)) then (if (wrap64 (x5 - 1)) < (x1002004.length : Int) then ((impl_compare.f k ((rd_T87 x1002004 (wrap64 (x5 - 1))).f0) x1010000).bind fun t1015 => (if t1015 > 0 then (some false) else (if t1015 = 0 then (if x1010001 ≤ (wrap64 (((rd_T87 x1002004 (wrap64 (x5 - 1))).f2) + 1)) then (some false) else (impl_GoodBlock.l1 k x80 x81 (wrap64 (x82 + 1)) x1002000 x1002001 x1002002 x1002003 x1002004)) else (impl_GoodBlock.l1 k x80 x81 (wrap64 (x82 + 1)) x1002000 x1002001 x1002002 x1002003 x1002004)))) else (none)) else (none))) else (some false)))
end
def impl_GoodBlock.f (k : Nat) (a0_0 : Int) (a0_1 : Int) (a0_2 : Int) (l0_3 : List (S83)) (l0_4 : List (S87)) : Option (Bool) := (impl_isTime.f a0_0).bind fun t1002 => (if t1002 = true then (if a0_1 ≤ a0_0 then (impl_GoodBlock.j0 k true a0_0 a0_1 a0_2 l0_3 l0_4) else (if a0_1 > 1000000000001 then (impl_GoodBlock.j0 k true a0_0 a0_1 a0_2 l0_3 l0_4) else (if a0_2 < 1 then (impl_GoodBlock.j0 k true a0_0 a0_1 a0_2 l0_3 l0_4) else (if a0_2 > 9 then (impl_GoodBlock.j0 k true a0_0 a0_1 a0_2 l0_3 l0_4) else ((impl_GoodSeries.f k l0_3).bind fun t1003 => (if t1003 = true then (impl_GoodBlock.j0 k (decide ((l0_4.length : Int) > 100)) a0_0 a0_1 a0_2 l0_3 l0_4) else (impl_GoodBlock.j0 k true a0_0 a0_1 a0_2 l0_3 l0_4))))))) else (impl_GoodBlock.j0 k true a0_0 a0_1 a0_2 l0_3 l0_4))
theorem impl_GoodBlock.mono_l : ∀ k, (∀ y0 y1 y2 y3 y4 y5, LeO (impl_GoodBlock.j0 k y0 y1 y2 y3 y4 y5) (impl_GoodBlock.j0 (k + 1) y0 y1 y2 y3 y4 y5)) ∧ (∀ y0 y1 y2 y3 y4 y5 y6 y7, LeO (impl_GoodBlock.l0 k y0 y1 y2 y3 y4 y5 y6 y7) (impl_GoodBlock.l0 (k + 1) y0 y1 y2 y3 y4 y5 y6 y7)) ∧ (∀ y0 y1 y2 y3 y4 y5 y6 y7, LeO (impl_GoodBlock.l1 k y0 y1 y2 y3 y4 y5 y6 y7) (impl_GoodBlock.l1 (k + 1) y0 y1 y2 y3 y4 y5 y6 y7)) ∧ (∀ y0 y1 y2 y3 y4 y5 y6 y7 y8 y9 y10 y11 y12, LeO (impl_GoodBlock.j3 k y0 y1 y2 y3 y4 y5 y6 y7 y8 y9 y10 y11 y12) (impl_GoodBlock.j3 (k + 1) y0 y1 y2 y3 y4 y5 y6 y7 y8 y9 y10 y11 y12))
 | 0 => ⟨fun _ _ _ _ _ _ r h => by simp [impl_GoodBlock.j0] at h, fun _ _ _ _ _ _ _ _ r h => by simp [impl_GoodBlock.l0] at h, fun _ _ _ _ _ _ _ _ r h => by simp [impl_GoodBlock.l1] at h, fun _ _ _ _ _ _ _ _ _ _ _ _ _ r h => by simp [impl_GoodBlock.j3] at h⟩
 | k + 1 => by
  obtain ⟨ih0, ih1, ih2, ih3⟩ := impl_GoodBlock.mono_l k
  refine ⟨?_, ?_, ?_, ?_⟩
  ·intro y0 y1 y2 y3 y4 y5
   unfold impl_GoodBlock.j0
   repeat' first
   | with_reducible first | exact ih0 _ _ _ _ _ _ | exact ih1 _ _ _ _ _ _ _ _ | exact ih2 _ _ _ _ _ _ _ _ | exact ih3 _ _ _ _ _ _ _ _ _ _ _ _ _ | exact impl_GoodLabels.mono _ _ | exact impl_GoodSeries.mono _ _ | exact impl_compare.mono _ _ _ | exact impl_findSeries.mono _ _ _ | exact LeO.refl _ | exact LeO.none _ | refine LeO.ite ?_ ?_ | refine LeO.bind ?_ (fun _ => ?_)
   | exact ih0 _ _ _ _ _ _
   | exact ih1 _ _ _ _ _ _ _ _
   | exact ih2 _ _ _ _ _ _ _ _
   | exact ih3 _ _ _ _ _ _ _ _ _ _ _ _ _
   | exact impl_GoodLabels.mono _ _
   | exact impl_GoodSeries.mono _ _
   | exact impl_compare.mono _ _ _
   | exact impl_findSeries.mono _ _ _
   | exact LeO.none _
   | refine LeO.ite ?_ ?_
   | refine LeO.bind ?_ (fun _ => ?_)
  ·intro y0 y1 y2 y3 y4 y5 y6 y7
   unfold impl_GoodBlock.l0
   repeat' first
   | with_reducible first | exact ih0 _ _ _ _ _ _ | exact ih1 _ _ _ _ _ _ _ _ | exact ih2 _ _ _ _ _ _ _ _ | exact ih3 _ _ _ _ _ _ _ _ _ _ _ _ _ | exact impl_GoodLabels.mono _ _ | exact impl_GoodSeries.mono _ _ | exact impl_compare.mono _ _ _ | exact impl_findSeries.mono _ _ _ | exact LeO.refl _ | exact LeO.none _ | refine LeO.ite ?_ ?_ | refine LeO.bind ?_ (fun _ => ?_)
   | exact ih0 _ _ _ _ _ _
   | exact ih1 _ _ _ _ _ _ _ _
   | exact ih2 _ _ _ _ _ _ _ _
   | exact ih3 _ _ _ _ _ _ _ _ _ _ _ _ _
   | exact impl_GoodLabels.mono _ _
   | exact impl_GoodSeries.mono _ _
   | exact impl_compare.mono _ _ _
   | exact impl_findSeries.mono _ _ _
   | exact LeO.none _
   | refine LeO.ite ?_ ?_
   | refine LeO.bind ?_ (fun _ => ?_)
  ·intro y0 y1 y2 y3 y4 y5 y6 y7
   unfold impl_GoodBlock.l1
   repeat' first
   | with_reducible first | exact ih0 _ _ _ _ _ _ | exact ih1 _ _ _ _ _ _ _ _ | exact ih2 _ _ _ _ _ _ _ _ | exact ih3 _ _ _ _ _ _ _ _ _ _ _ _ _ | exact impl_GoodLabels.mono _ _ | exact impl_GoodSeries.mono _ _ | exact impl_compare.mono _ _ _ | exact impl_findSeries.mono _ _ _ | exact LeO.refl _ | exact LeO.none _ | refine LeO.ite ?_ ?_ | refine LeO.bind ?_ (fun _ => ?_)
   | exact ih0 _ _ _ _ _ _
   | exact ih1 _ _ _ _ _ _ _ _
   | exact ih2 _ _ _ _ _ _ _ _
   | exact ih3 _ _ _ _ _ _ _ _ _ _ _ _ _
   | exact impl_GoodLabels.mono _ _
   | exact impl_GoodSeries.mono _ _
   | exact impl_compare.mono _ _ _
   | exact impl_findSeries.mono _ _ _
   | exact LeO.none _
   | refine LeO.ite ?_ ?_
   | refine LeO.bind ?_ (fun _ => ?_)
  ·intro y0 y1 y2 y3 y4 y5 y6 y7 y8 y9 y10 y11 y12
   unfold impl_GoodBlock.j3
   repeat' first
   | with_reducible first | exact ih0 _ _ _ _ _ _ | exact ih1 _ _ _ _ _ _ _ _ | exact ih2 _ _ _ _ _ _ _ _ | exact ih3 _ _ _ _ _ _ _ _ _ _ _ _ _ | exact impl_GoodLabels.mono _ _ | exact impl_GoodSeries.mono _ _ | exact impl_compare.mono _ _ _ | exact impl_findSeries.mono _ _ _ | exact LeO.refl _ | exact LeO.none _ | refine LeO.ite ?_ ?_ | refine LeO.bind ?_ (fun _ => ?_)
   | exact ih0 _ _ _ _ _ _
   | exact ih1 _ _ _ _ _ _ _ _
   | exact ih2 _ _ _ _ _ _ _ _
   | exact ih3 _ _ _ _ _ _ _ _ _ _ _ _ _
   | exact impl_GoodLabels.mono _ _
   | exact impl_GoodSeries.mono _ _
   | exact impl_compare.mono _ _ _
   | exact impl_findSeries.mono _ _ _
   | exact LeO.none _
   | refine LeO.ite ?_ ?_
   | refine LeO.bind ?_ (fun _ => ?_)
theorem impl_GoodBlock.mono : ∀ a0 a1 a2 a3 a4 k, LeO (impl_GoodBlock.f k a0 a1 a2 a3 a4) (impl_GoodBlock.f (k + 1) a0 a1 a2 a3 a4) := by
 intro a0 a1 a2 a3 a4 k
 obtain ⟨ih0, ih1, ih2, ih3⟩ := impl_GoodBlock.mono_l k
 unfold impl_GoodBlock.f
 repeat' first
   | with_reducible first | exact ih0 _ _ _ _ _ _ | exact ih1 _ _ _ _ _ _ _ _ | exact ih2 _ _ _ _ _ _ _ _ | exact ih3 _ _ _ _ _ _ _ _ _ _ _ _ _ | exact impl_GoodLabels.mono _ _ | exact impl_GoodSeries.mono _ _ | exact impl_compare.mono _ _ _ | exact impl_findSeries.mono _ _ _ | exact LeO.refl _ | exact LeO.none _ | refine LeO.ite ?_ ?_ | refine LeO.bind ?_ (fun _ => ?_)
   | exact ih0 _ _ _ _ _ _
   | exact ih1 _ _ _ _ _ _ _ _
   | exact ih2 _ _ _ _ _ _ _ _
   | exact ih3 _ _ _ _ _ _ _ _ _ _ _ _ _
   | exact impl_GoodLabels.mono _ _
   | exact impl_GoodSeries.mono _ _
   | exact impl_compare.mono _ _ _
   | exact impl_findSeries.mono _ _ _
   | exact LeO.none _
   | refine LeO.ite ?_ ?_
   | refine LeO.bind ?_ (fun _ => ?_)
set_option maxHeartbeats 8000000 in
set_option maxRecDepth 100000 in
theorem impl_GoodBlock.calls (k : Nat) (a0_0 : Int) (a0_1 : Int) (a0_2 : Int) (A0_3 : Option Addr) (c0_3 : Nat) (l0_3 : List (S83)) (A0_4 : Option Addr) (c0_4 : Nat) (l0_4 : List (S87)) (r : Bool) (w : World) (hr0_3 : Kd.C k83 w A0_3 l0_3.length l0_3) (hc0_3 : l0_3.length ≤ c0_3) (hr0_4 : Kd.C k87 w A0_4 l0_4.length l0_4) (hc0_4 : l0_4.length ≤ c0_4) (h : impl_GoodBlock.f k a0_0 a0_1 a0_2 l0_3 l0_4 = some r) :
  Calls Try.prog 11 #[.agg #[.int .i64 a0_0, .int .i64 a0_1, .int .i64 a0_2, .slice A0_3 l0_3.length c0_3, .slice A0_4 l0_4.length c0_4]] w fun e w' => e = .returned (.bool r) ∧ Below w.heap.size w w' := by
 have hu31 := Try.underlying31
 have hu83 := Try.underlying83
 have hu87 := Try.underlying87
 have HR0_3 := am_ hr0_3
 have HC0_3 := am_ hc0_3
 clear hr0_3 hc0_3
 have HR0_4 := am_ hr0_4
 have HC0_4 := am_ hc0_4
 clear hr0_4 hc0_4
 have HB := am_ (Below.refl w.heap.size w)
 have H : ((impl_isTime.f a0_0).bind fun t1002 => (if t1002 = true then (if a0_1 ≤ a0_0 then (impl_GoodBlock.j0 k true a0_0 a0_1 a0_2 l0_3 l0_4) else (if a0_1 > 1000000000001 then (impl_GoodBlock.j0 k true a0_0 a0_1 a0_2 l0_3 l0_4) else (if a0_2 < 1 then (impl_GoodBlock.j0 k true a0_0 a0_1 a0_2 l0_3 l0_4) else (if a0_2 > 9 then (impl_GoodBlock.j0 k true a0_0 a0_1 a0_2 l0_3 l0_4) else ((impl_GoodSeries.f k l0_3).bind fun t1003 => (if t1003 = true then (impl_GoodBlock.j0 k (decide ((l0_4.length : Int) > 100)) a0_0 a0_1 a0_2 l0_3 l0_4) else (impl_GoodBlock.j0 k true a0_0 a0_1 a0_2 l0_3 l0_4))))))) else (impl_GoodBlock.j0 k true a0_0 a0_1 a0_2 l0_3 l0_4))) = some r := h
 clear h
 have HC2 := am_ H
 clear H
 go_enter Try.func11, Try.ntmps11
 go_upto_region 1 with (first | ((with_reducible refine gate_dst (N := 1) rfl ?_); (try (refine gate_guard (by rfl) ?_; dsimp only)); refine bx_ 1 #[.int .i64 a0_0, .int .i64 a0_1, .int .i64 a0_2, .slice A0_3 l0_3.length c0_3, .slice A0_4 l0_4.length c0_4] 31 ?_; intro gb1001 hg w3 hbox hb; have BK1001 := am_ (hbox); have GW1001 := am_ (gs_ hg : w.heap.size ≤ gb1001); replace HB := am_ (below_step bl_ hb); have GE1001 := GW1001; clear hb hbox hg))
 repeat (go_quiet (first | ((with_reducible refine gate_dst (N := 1) rfl ?_); (try (refine gate_guard (by rfl) ?_; dsimp only)); refine bx_ 1 #[.int .i64 a0_0, .int .i64 a0_1, .int .i64 a0_2, .slice A0_3 l0_3.length c0_3, .slice A0_4 l0_4.length c0_4] 31 ?_; intro gb1001 hg w3 hbox hb; have BK1001 := am_ (hbox); have GW1001 := am_ (gs_ hg : w.heap.size ≤ gb1001); replace HB := am_ (below_step bl_ hb); have GE1001 := GW1001; clear hb hbox hg)); go_upto_region 1 with (first | ((with_reducible refine gate_dst (N := 1) rfl ?_); (try (refine gate_guard (by rfl) ?_; dsimp only)); refine bx_ 1 #[.int .i64 a0_0, .int .i64 a0_1, .int .i64 a0_2, .slice A0_3 l0_3.length c0_3, .slice A0_4 l0_4.length c0_4] 31 ?_; intro gb1001 hg w3 hbox hb; have BK1001 := am_ (hbox); have GW1001 := am_ (gs_ hg : w.heap.size ≤ gb1001); replace HB := am_ (below_step bl_ hb); have GE1001 := GW1001; clear hb hbox hg)))
 (try simp only [Act.put, List.setIfInBounds_toArray, List.set_cons_zero, List.set_cons_succ])
 go_cut [48] (fun v48 wc => ∃ (kq : Nat) (x48_1 : Bool), v48 = .bool x48_1 ∧ Aside0 (impl_GoodBlock.j0 kq x48_1 a0_0 a0_1 a0_2 l0_3 l0_4 = some r) ∧ Aside0 (kq ≤ k) ∧ Aside0 (wc.heap[gb1001]? = some (.cells #[.int .i64 a0_0, .int .i64 a0_1, .int .i64 a0_2, (.slice A0_3 l0_3.length c0_3), (.slice A0_4 l0_4.length c0_4)] 31 (0, 0))) ∧ Aside0 (Below w.heap.size w wc))
 case first =>
  have H := HC2.out
  clear HC2
  replace H := Option.bind_eq_some_iff.mp H
  obtain ⟨t1002, A40, H⟩ := H
  replace H : (if t1002 = true then (if a0_1 ≤ a0_0 then (impl_GoodBlock.j0 k true a0_0 a0_1 a0_2 l0_3 l0_4) else (if a0_1 > 1000000000001 then (impl_GoodBlock.j0 k true a0_0 a0_1 a0_2 l0_3 l0_4) else (if a0_2 < 1 then (impl_GoodBlock.j0 k true a0_0 a0_1 a0_2 l0_3 l0_4) else (if a0_2 > 9 then (impl_GoodBlock.j0 k true a0_0 a0_1 a0_2 l0_3 l0_4) else ((impl_GoodSeries.f k l0_3).bind fun t1003 => (if t1003 = true then (impl_GoodBlock.j0 k (decide ((l0_4.length : Int) > 100)) a0_0 a0_1 a0_2 l0_3 l0_4) else (impl_GoodBlock.j0 k true a0_0 a0_1 a0_2 l0_3 l0_4))))))) else (impl_GoodBlock.j0 k true a0_0 a0_1 a0_2 l0_3 l0_4)) = some r := H
  have A4 := am_ A40
  clear A40
  by_cases c5 : t1002 = true
  ·subst c5
   have H1 : (if a0_1 ≤ a0_0 then (impl_GoodBlock.j0 k true a0_0 a0_1 a0_2 l0_3 l0_4) else (if a0_1 > 1000000000001 then (impl_GoodBlock.j0 k true a0_0 a0_1 a0_2 l0_3 l0_4) else (if a0_2 < 1 then (impl_GoodBlock.j0 k true a0_0 a0_1 a0_2 l0_3 l0_4) else (if a0_2 > 9 then (impl_GoodBlock.j0 k true a0_0 a0_1 a0_2 l0_3 l0_4) else ((impl_GoodSeries.f k l0_3).bind fun t1003 => (if t1003 = true then (impl_GoodBlock.j0 k (decide ((l0_4.length : Int) > 100)) a0_0 a0_1 a0_2 l0_3 l0_4) else (impl_GoodBlock.j0 k true a0_0 a0_1 a0_2 l0_3 l0_4))))))) = some r := by rw [if_pos rfl] at H; exact H
   clear H
   have H := H1
   clear H1
   by_cases c6 : a0_1 ≤ a0_0
   ·rw [if_pos c6] at H
    have c6b0 : decide (a0_1 ≤ a0_0) = true := decide_eq_true c6
    clear c6
    (first | rw [c6b0] | (simp only [i64_w, i32_w]; rw [c6b0]) | skip)
    have H' := am_ H
    clear H
    have hcz7_0 := bc5_0 BK1001
    have hcz7_1 := bc5_1 BK1001
    have hcz7_2 := bc5_2 BK1001
    have hcz7_3 := bc5_3 BK1001
    have hcz7_4 := bc5_4 BK1001
    have hfz7_0 := bf_ BK1001 0
    have hfz7_1 := bf_ BK1001 1
    have hfz7_2 := bf_ BK1001 2
    have hfz7_3 := bf_ BK1001 3
    have hfz7_4 := bf_ BK1001 4
    go_wp2_with (first | (go_at_call 52; (with_reducible refine (impl_isTime.calls a0_0 true _ A4.out).mono ?_); rintro e w' ⟨rfl, ⟨nd, rfl⟩⟩; (try exact dd_)))
    repeat (go_quiet (first | (go_at_call 52; (with_reducible refine (impl_isTime.calls a0_0 true _ A4.out).mono ?_); rintro e w' ⟨rfl, ⟨nd, rfl⟩⟩; (try exact dd_))); try go_wp2)
    go_meet
    case rel => exact ⟨_, (true), rs_, H', ⟨by first | omega | exact Nat.le_refl _⟩, ⟨vk_ BK1001⟩, ⟨bg_⟩⟩
   ·rw [if_neg c6] at H
    have c6b0 : decide (a0_1 ≤ a0_0) = false := decide_eq_false c6
    clear c6
    (first | rw [c6b0] | (simp only [i64_w, i32_w]; rw [c6b0]) | skip)
    by_cases c8 : a0_1 > 1000000000001
    ·rw [if_pos c8] at H
     have c8b0 : decide (1000000000001 < a0_1) = true := decide_eq_true c8
     clear c8
     have H' := am_ H
     clear H
     have hcz9_0 := bc5_0 BK1001
     have hcz9_1 := bc5_1 BK1001
     have hcz9_2 := bc5_2 BK1001
     have hcz9_3 := bc5_3 BK1001
     have hcz9_4 := bc5_4 BK1001
     have hfz9_0 := bf_ BK1001 0
     have hfz9_1 := bf_ BK1001 1
     have hfz9_2 := bf_ BK1001 2
     have hfz9_3 := bf_ BK1001 3
     have hfz9_4 := bf_ BK1001 4
     go_wp2_with (first | (go_at_call 52; (with_reducible refine (impl_isTime.calls a0_0 true _ A4.out).mono ?_); rintro e w' ⟨rfl, ⟨nd, rfl⟩⟩; (try exact dd_)))
     repeat (go_quiet (first | (go_at_call 52; (with_reducible refine (impl_isTime.calls a0_0 true _ A4.out).mono ?_); rintro e w' ⟨rfl, ⟨nd, rfl⟩⟩; (try exact dd_))); try go_wp2)
     go_meet
     case rel => exact ⟨_, (true), rs_, H', ⟨by first | omega | exact Nat.le_refl _⟩, ⟨vk_ BK1001⟩, ⟨bg_⟩⟩
    ·rw [if_neg c8] at H
     have c8b0 : decide (1000000000001 < a0_1) = false := decide_eq_false c8
     clear c8
     by_cases c10 : a0_2 < 1
     ·rw [if_pos c10] at H
      have c10b0 : decide (a0_2 < 1) = true := decide_eq_true c10
      clear c10
      have H' := am_ H
      clear H
      have hcz11_0 := bc5_0 BK1001
      have hcz11_1 := bc5_1 BK1001
      have hcz11_2 := bc5_2 BK1001
      have hcz11_3 := bc5_3 BK1001
      have hcz11_4 := bc5_4 BK1001
      have hfz11_0 := bf_ BK1001 0
      have hfz11_1 := bf_ BK1001 1
      have hfz11_2 := bf_ BK1001 2
      have hfz11_3 := bf_ BK1001 3
      have hfz11_4 := bf_ BK1001 4
      go_wp2_with (first | (go_at_call 52; (with_reducible refine (impl_isTime.calls a0_0 true _ A4.out).mono ?_); rintro e w' ⟨rfl, ⟨nd, rfl⟩⟩; (try exact dd_)))
      repeat (go_quiet (first | (go_at_call 52; (with_reducible refine (impl_isTime.calls a0_0 true _ A4.out).mono ?_); rintro e w' ⟨rfl, ⟨nd, rfl⟩⟩; (try exact dd_))); try go_wp2)
      go_meet
      case rel => exact ⟨_, (true), rs_, H', ⟨by first | omega | exact Nat.le_refl _⟩, ⟨vk_ BK1001⟩, ⟨bg_⟩⟩
     ·rw [if_neg c10] at H
      have c10b0 : decide (a0_2 < 1) = false := decide_eq_false c10
      clear c10
      by_cases c12 : a0_2 > 9
      ·rw [if_pos c12] at H
       have c12b0 : decide (9 < a0_2) = true := decide_eq_true c12
       clear c12
       have H' := am_ H
       clear H
       have hcz13_0 := bc5_0 BK1001
       have hcz13_1 := bc5_1 BK1001
       have hcz13_2 := bc5_2 BK1001
       have hcz13_3 := bc5_3 BK1001
       have hcz13_4 := bc5_4 BK1001
       have hfz13_0 := bf_ BK1001 0
       have hfz13_1 := bf_ BK1001 1
       have hfz13_2 := bf_ BK1001 2
       have hfz13_3 := bf_ BK1001 3
       have hfz13_4 := bf_ BK1001 4
       go_wp2_with (first | (go_at_call 52; (with_reducible refine (impl_isTime.calls a0_0 true _ A4.out).mono ?_); rintro e w' ⟨rfl, ⟨nd, rfl⟩⟩; (try exact dd_)))
       repeat (go_quiet (first | (go_at_call 52; (with_reducible refine (impl_isTime.calls a0_0 true _ A4.out).mono ?_); rintro e w' ⟨rfl, ⟨nd, rfl⟩⟩; (try exact dd_))); try go_wp2)
       go_meet
       case rel => exact ⟨_, (true), rs_, H', ⟨by first | omega | exact Nat.le_refl _⟩, ⟨vk_ BK1001⟩, ⟨bg_⟩⟩
      ·rw [if_neg c12] at H
       have c12b0 : decide (9 < a0_2) = false := decide_eq_false c12
       clear c12
       replace H := Option.bind_eq_some_iff.mp H
       obtain ⟨t1003, A140, H⟩ := H
       replace H : (if t1003 = true then (impl_GoodBlock.j0 k (decide ((l0_4.length : Int) > 100)) a0_0 a0_1 a0_2 l0_3 l0_4) else (impl_GoodBlock.j0 k true a0_0 a0_1 a0_2 l0_3 l0_4)) = some r := H
       have A14 := am_ A140
       clear A140
       by_cases c15 : t1003 = true
       ·subst c15
        have H1 : (impl_GoodBlock.j0 k (decide ((l0_4.length : Int) > 100)) a0_0 a0_1 a0_2 l0_3 l0_4) = some r := by rw [if_pos rfl] at H; exact H
        clear H
        have H := H1
        clear H1
        have H' := am_ H
        clear H
        have hcz16_0 := bc5_0 BK1001
        have hcz16_1 := bc5_1 BK1001
        have hcz16_2 := bc5_2 BK1001
        have hcz16_3 := bc5_3 BK1001
        have hcz16_4 := bc5_4 BK1001
        have hfz16_0 := bf_ BK1001 0
        have hfz16_1 := bf_ BK1001 1
        have hfz16_2 := bf_ BK1001 2
        have hfz16_3 := bf_ BK1001 3
        have hfz16_4 := bf_ BK1001 4
        go_wp2_with (first | (go_at_call 52; (with_reducible refine (impl_isTime.calls a0_0 true _ A4.out).mono ?_); rintro e w' ⟨rfl, ⟨nd, rfl⟩⟩; (try exact dd_)) | (go_at_call 53; (with_reducible refine (impl_GoodSeries.calls k _ _ l0_3 true _ ?side1 ?side2 A14.out).mono ?_); (case side1 => exact cc_ (Kd.C_below HR0_3.out bg_)); (case side2 => exact HC0_3.out); rintro e w17 ⟨rfl, hb⟩; replace BK1001 := am_ (blk_below (g := gb1001) (vk_ BK1001) hb); replace HB := am_ (below_step bg_ hb); (try clear hb); (try clear hb2); (try clear hk); (try clear hi); have hcz18_0 := bc5_0 BK1001; have hcz18_1 := bc5_1 BK1001; have hcz18_2 := bc5_2 BK1001; have hcz18_3 := bc5_3 BK1001; have hcz18_4 := bc5_4 BK1001; have hfz18_0 := bf_ BK1001 0; have hfz18_1 := bf_ BK1001 1; have hfz18_2 := bf_ BK1001 2; have hfz18_3 := bf_ BK1001 3; have hfz18_4 := bf_ BK1001 4))
        repeat (go_quiet (first | (go_at_call 52; (with_reducible refine (impl_isTime.calls a0_0 true _ A4.out).mono ?_); rintro e w' ⟨rfl, ⟨nd, rfl⟩⟩; (try exact dd_)) | (go_at_call 53; (with_reducible refine (impl_GoodSeries.calls k _ _ l0_3 true _ ?side1 ?side2 A14.out).mono ?_); (case side1 => exact cc_ (Kd.C_below HR0_3.out bg_)); (case side2 => exact HC0_3.out); rintro e w17 ⟨rfl, hb⟩; replace BK1001 := am_ (blk_below (g := gb1001) (vk_ BK1001) hb); replace HB := am_ (below_step bg_ hb); (try clear hb); (try clear hb2); (try clear hk); (try clear hi); have hcz18_0 := bc5_0 BK1001; have hcz18_1 := bc5_1 BK1001; have hcz18_2 := bc5_2 BK1001; have hcz18_3 := bc5_3 BK1001; have hcz18_4 := bc5_4 BK1001; have hfz18_0 := bf_ BK1001 0; have hfz18_1 := bf_ BK1001 1; have hfz18_2 := bf_ BK1001 2; have hfz18_3 := bf_ BK1001 3; have hfz18_4 := bf_ BK1001 4)); try go_wp2)
        go_meet
        case rel => exact ⟨_, (decide ((l0_4.length : Int) > 100)), rs_, H', ⟨by first | omega | exact Nat.le_refl _⟩, ⟨vk_ BK1001⟩, ⟨bg_⟩⟩
       ·replace c15 := Bool.eq_false_iff.mpr c15
        subst c15
        have H1 : (impl_GoodBlock.j0 k true a0_0 a0_1 a0_2 l0_3 l0_4) = some r := by rw [if_neg (show ¬ (false = true) by decide)] at H; exact H
        clear H
        have H := H1
        clear H1
        have H' := am_ H
        clear H
        have hcz19_0 := bc5_0 BK1001
        have hcz19_1 := bc5_1 BK1001
        have hcz19_2 := bc5_2 BK1001
        have hcz19_3 := bc5_3 BK1001
        have hcz19_4 := bc5_4 BK1001
        have hfz19_0 := bf_ BK1001 0
        have hfz19_1 := bf_ BK1001 1
        have hfz19_2 := bf_ BK1001 2
        have hfz19_3 := bf_ BK1001 3
        have hfz19_4 := bf_ BK1001 4
        go_wp2_with (first | (go_at_call 52; (with_reducible refine (impl_isTime.calls a0_0 true _ A4.out).mono ?_); rintro e w' ⟨rfl, ⟨nd, rfl⟩⟩; (try exact dd_)) | (go_at_call 53; (with_reducible refine (impl_GoodSeries.calls k _ _ l0_3 false _ ?side1 ?side2 A14.out).mono ?_); (case side1 => exact cc_ (Kd.C_below HR0_3.out bg_)); (case side2 => exact HC0_3.out); rintro e w20 ⟨rfl, hb⟩; replace BK1001 := am_ (blk_below (g := gb1001) (vk_ BK1001) hb); replace HB := am_ (below_step bg_ hb); (try clear hb); (try clear hb2); (try clear hk); (try clear hi)))
        repeat (go_quiet (first | (go_at_call 52; (with_reducible refine (impl_isTime.calls a0_0 true _ A4.out).mono ?_); rintro e w' ⟨rfl, ⟨nd, rfl⟩⟩; (try exact dd_)) | (go_at_call 53; (with_reducible refine (impl_GoodSeries.calls k _ _ l0_3 false _ ?side1 ?side2 A14.out).mono ?_); (case side1 => exact cc_ (Kd.C_below HR0_3.out bg_)); (case side2 => exact HC0_3.out); rintro e w20 ⟨rfl, hb⟩; replace BK1001 := am_ (blk_below (g := gb1001) (vk_ BK1001) hb); replace HB := am_ (below_step bg_ hb); (try clear hb); (try clear hb2); (try clear hk); (try clear hi))); try go_wp2)
        go_meet
        case rel => exact ⟨_, (true), rs_, H', ⟨by first | omega | exact Nat.le_refl _⟩, ⟨vk_ BK1001⟩, ⟨bg_⟩⟩
  ·replace c5 := Bool.eq_false_iff.mpr c5
   subst c5
   have H1 : (impl_GoodBlock.j0 k true a0_0 a0_1 a0_2 l0_3 l0_4) = some r := by rw [if_neg (show ¬ (false = true) by decide)] at H; exact H
   clear H
   have H := H1
   clear H1
   have H' := am_ H
   clear H
   have hcz21_0 := bc5_0 BK1001
   have hcz21_1 := bc5_1 BK1001
   have hcz21_2 := bc5_2 BK1001
   have hcz21_3 := bc5_3 BK1001
   have hcz21_4 := bc5_4 BK1001
   have hfz21_0 := bf_ BK1001 0
   have hfz21_1 := bf_ BK1001 1
   have hfz21_2 := bf_ BK1001 2
   have hfz21_3 := bf_ BK1001 3
   have hfz21_4 := bf_ BK1001 4
   go_wp2_with (first | (go_at_call 52; (with_reducible refine (impl_isTime.calls a0_0 false _ A4.out).mono ?_); rintro e w' ⟨rfl, ⟨nd, rfl⟩⟩; (try exact dd_)))
   repeat (go_quiet (first | (go_at_call 52; (with_reducible refine (impl_isTime.calls a0_0 false _ A4.out).mono ?_); rintro e w' ⟨rfl, ⟨nd, rfl⟩⟩; (try exact dd_))); try go_wp2)
   go_meet
   case rel => exact ⟨_, (true), rs_, H', ⟨by first | omega | exact Nat.le_refl _⟩, ⟨vk_ BK1001⟩, ⟨bg_⟩⟩
 case rest =>
  clear HC2
  try clear c1
  try clear p2
  try clear c5
  try clear c6
  try clear c6b0
  try clear c8
  try clear c8b0
  try clear c10
  try clear c10b0
  try clear c11
  try clear c12
  try clear c12b0
  try clear c15
  try clear hcz11_0
  try clear hcz11_1
  try clear hcz11_2
  try clear hcz11_3
  try clear hcz11_4
  try clear hcz13_0
  try clear hcz13_1
  try clear hcz13_2
  try clear hcz13_3
  try clear hcz13_4
  try clear hcz16_0
  try clear hcz16_1
  try clear hcz16_2
  try clear hcz16_3
  try clear hcz16_4
  try clear hcz18_0
  try clear hcz18_1
  try clear hcz18_2
  try clear hcz18_3
  try clear hcz18_4
  try clear hcz19_0
  try clear hcz19_1
  try clear hcz19_2
  try clear hcz19_3
  try clear hcz19_4
  try clear hcz21_0
  try clear hcz21_1
  try clear hcz21_2
  try clear hcz21_3
  try clear hcz21_4
  try clear hcz7_0
  try clear hcz7_1
  try clear hcz7_2
  try clear hcz7_3
  try clear hcz7_4
  try clear hcz9_0
  try clear hcz9_1
  try clear hcz9_2
  try clear hcz9_3
  try clear hcz9_4
  try clear hfz11_0
  try clear hfz11_1
  try clear hfz11_2
  try clear hfz11_3
  try clear hfz11_4
  try clear hfz13_0
  try clear hfz13_1
  try clear hfz13_2
  try clear hfz13_3
  try clear hfz13_4
  try clear hfz16_0
  try clear hfz16_1
  try clear hfz16_2
  try clear hfz16_3
  try clear hfz16_4
  try clear hfz18_0
  try clear hfz18_1
  try clear hfz18_2
  try clear hfz18_3
  try clear hfz18_4
  try clear hfz19_0
  try clear hfz19_1
  try clear hfz19_2
  try clear hfz19_3
  try clear hfz19_4
  try clear hfz21_0
  try clear hfz21_1
  try clear hfz21_2
  try clear hfz21_3
  try clear hfz21_4
  try clear hfz7_0
  try clear hfz7_1
  try clear hfz7_2
  try clear hfz7_3
  try clear hfz7_4
  try clear hfz9_0
  try clear hfz9_1
  try clear hfz9_2
  try clear hfz9_3
  try clear hfz9_4
  obtain ⟨kq, x48_1, rfl, HA, HJ1, BK1001, HB⟩ := hcut
  cases kq with
  | zero => exact absurd HA.out (by simp [impl_GoodBlock.j0])
  | succ kj1 =>
   have H := HA.out
   clear HA
   simp only [impl_GoodBlock.j0] at H
   by_cases c22 : x48_1 = true
   ·subst c22
    have H1 : (some false) = some r := by rw [if_pos rfl] at H; exact H
    clear H
    have H := H1
    clear H1
    obtain rfl := Option.some.inj H
    go_wp2
    repeat (go_quiet (fail); try go_wp2)
    go_ret
    exact ⟨rf_, bg_⟩
   ·replace c22 := Bool.eq_false_iff.mpr c22
    subst c22
    have H1 : (impl_GoodBlock.l0 kj1 l0_3 (l0_3.length : Int) 0 a0_0 a0_1 a0_2 l0_3 l0_4) = some r := by rw [if_neg (show ¬ (false = true) by decide)] at H; exact H
    clear H
    have H := H1
    clear H1
    have H' := am_ H
    clear H
    have hcz23_0 := bc5_0 BK1001
    have hcz23_1 := bc5_1 BK1001
    have hcz23_2 := bc5_2 BK1001
    have hcz23_3 := bc5_3 BK1001
    have hcz23_4 := bc5_4 BK1001
    have hfz23_0 := bf_ BK1001 0
    have hfz23_1 := bf_ BK1001 1
    have hfz23_2 := bf_ BK1001 2
    have hfz23_3 := bf_ BK1001 3
    have hfz23_4 := bf_ BK1001 4
    go_wp2
    repeat (go_quiet (fail); try go_wp2)
    go_loopg [52] kj1 (fun kq v52 w' => ∃ (x52_2 : Int), v52 = .int .i64 x52_2 ∧ Aside0 (impl_GoodBlock.l0 kq l0_3 (l0_3.length : Int) x52_2 a0_0 a0_1 a0_2 l0_3 l0_4 = some r) ∧ Aside0 (kq ≤ kj1) ∧ Aside0 (w'.heap[gb1001]? = some (.cells #[.int .i64 a0_0, .int .i64 a0_1, .int .i64 a0_2, (.slice A0_3 l0_3.length c0_3), (.slice A0_4 l0_4.length c0_4)] 31 (0, 0))) ∧ Aside0 (Below w.heap.size w w'))
    case atStart => exact ⟨(0), rs_, H', ⟨Nat.le_refl _⟩, ⟨vk_ BK1001⟩, ⟨bg_⟩⟩
    case round =>
     clear H'
     try clear c1
     try clear c2
     try clear p2
     try clear c5
     try clear c6
     try clear c6b0
     try clear c8
     try clear c8b0
     try clear c10
     try clear c10b0
     try clear c11
     try clear c12
     try clear c12b0
     try clear c15
     try clear c22
     try clear hcz11_0
     try clear hcz11_1
     try clear hcz11_2
     try clear hcz11_3
     try clear hcz11_4
     try clear hcz13_0
     try clear hcz13_1
     try clear hcz13_2
     try clear hcz13_3
     try clear hcz13_4
     try clear hcz16_0
     try clear hcz16_1
     try clear hcz16_2
     try clear hcz16_3
     try clear hcz16_4
     try clear hcz18_0
     try clear hcz18_1
     try clear hcz18_2
     try clear hcz18_3
     try clear hcz18_4
     try clear hcz19_0
     try clear hcz19_1
     try clear hcz19_2
     try clear hcz19_3
     try clear hcz19_4
     try clear hcz21_0
     try clear hcz21_1
     try clear hcz21_2
     try clear hcz21_3
     try clear hcz21_4
     try clear hcz23_0
     try clear hcz23_1
     try clear hcz23_2
     try clear hcz23_3
     try clear hcz23_4
     try clear hcz7_0
     try clear hcz7_1
     try clear hcz7_2
     try clear hcz7_3
     try clear hcz7_4
     try clear hcz9_0
     try clear hcz9_1
     try clear hcz9_2
     try clear hcz9_3
     try clear hcz9_4
     try clear hfz11_0
     try clear hfz11_1
     try clear hfz11_2
     try clear hfz11_3
     try clear hfz11_4
     try clear hfz13_0
     try clear hfz13_1
     try clear hfz13_2
     try clear hfz13_3
     try clear hfz13_4
     try clear hfz16_0
     try clear hfz16_1
     try clear hfz16_2
     try clear hfz16_3
     try clear hfz16_4
     try clear hfz18_0
     try clear hfz18_1
     try clear hfz18_2
     try clear hfz18_3
     try clear hfz18_4
     try clear hfz19_0
     try clear hfz19_1
     try clear hfz19_2
     try clear hfz19_3
     try clear hfz19_4
     try clear hfz21_0
     try clear hfz21_1
     try clear hfz21_2
     try clear hfz21_3
     try clear hfz21_4
     try clear hfz23_0
     try clear hfz23_1
     try clear hfz23_2
     try clear hfz23_3
     try clear hfz23_4
     try clear hfz7_0
     try clear hfz7_1
     try clear hfz7_2
     try clear hfz7_3
     try clear hfz7_4
     try clear hfz9_0
     try clear hfz9_1
     try clear hfz9_2
     try clear hfz9_3
     try clear hfz9_4
     try clear p2
     obtain ⟨x52_2, rfl, HA, HK2, BK1001, HB⟩ := hrel
     cases gk with
     | zero => exact absurd HA.out (by simp [impl_GoodBlock.l0])
     | succ k2 =>
      have H := HA.out
      clear HA
      simp only [impl_GoodBlock.l0] at H
      by_cases c24 : x52_2 < (l0_3.length : Int)
      ·rw [if_pos c24] at H
       have c24b0 : decide (x52_2 < (l0_3.length : Int)) = true := decide_eq_true c24
       clear c24
       by_cases c25 : 0 ≤ x52_2
       ·rw [if_pos c25] at H
        have c25b0 : decide (0 ≤ x52_2) = true := decide_eq_true c25
        clear c25
        by_cases c26 : x52_2 < (l0_3.length : Int)
        ·rw [if_pos c26] at H
         have c26b0 : decide (x52_2 < (l0_3.length : Int)) = true := decide_eq_true c26
         clear c26
         by_cases c27 : 0 < (((rd_T83 l0_3 x52_2).f1).length : Int)
         ·rw [if_pos c27] at H
          have c27b0 : decide (0 < (((rd_T83 l0_3 x52_2).f1).length : Int)) = true := decide_eq_true c27
          have c27b1 : decide (0 < ((rd_T83 l0_3 x52_2).f1).length) = true := decide_eq_true (by omega)
          clear c27
          by_cases c28 : ((rd_T85 ((rd_T83 l0_3 x52_2).f1) 0).f0) < a0_0
          ·rw [if_pos c28] at H
           have c28b0 : decide (((rd_T85 ((rd_T83 l0_3 x52_2).f1) 0).f0) < a0_0) = true := decide_eq_true c28
           clear c28
           obtain rfl := Option.some.inj H
           have p1004 : 0 ≤ (x52_2 : Int) := od_
           have q1004 : x52_2 < (l0_3.length : Int) := od_
           obtain ⟨ad1004, A1004_0, c1004_0, A1004_1, c1004_1, e1004, hx1004_0, hx1004_1, hl1004_0, hi1004_0, hl1004_1, hi1004_1⟩ := at_T83 HR0_3.out x52_2 p1004 q1004
           cases e1004
           replace hx1004_0 := kp_ HB hx1004_0
           replace hx1004_1 := kp_ HB hx1004_1
           have HR1004_0 := am_ hi1004_0
           have HC1004_0 := am_ hl1004_0
           clear hi1004_0 hl1004_0
           have HR1004_1 := am_ hi1004_1
           have HC1004_1 := am_ hl1004_1
           clear hi1004_1 hl1004_1
           replace p1004 := eq_true p1004
           replace q1004 := eq_true q1004
           go_wp2_with (first | ((with_reducible refine gate_dst (N := 4) rfl ?_); (try (refine gate_guard (by rfl) ?_; dsimp only)); refine bx_ 4 #[.slice none 0 0, .slice none 0 0] 83 ?_; intro gb1005 hg w29 hbox hb; have BK1005 := am_ (hbox); have GW1005 := am_ (gg_ hg : w.heap.size ≤ gb1005); have NB1001_1005 := am_ ((by rw [hg]; exact Nat.ne_of_lt (blk_lt (g := gb1001) (o := .cells #[.int .i64 a0_0, .int .i64 a0_1, .int .i64 a0_2, .slice (some ad1004) l0_3.length c0_3, .slice A0_4 l0_4.length c0_4] 31 (0, 0)) (vk_ BK1001)) : gb1001 ≠ gb1005)); have NB1005_1001 := am_ ((by rw [hg]; exact Nat.ne_of_gt (blk_lt (g := gb1001) (o := .cells #[.int .i64 a0_0, .int .i64 a0_1, .int .i64 a0_2, .slice (some ad1004) l0_3.length c0_3, .slice A0_4 l0_4.length c0_4] 31 (0, 0)) (vk_ BK1001)) : gb1005 ≠ gb1001)); replace BK1001 := am_ (blk_below (g := gb1001) (vk_ BK1001) hb); replace HB := am_ (below_step bg_ hb); have GE1005 := GW1005; clear hb hbox hg; have hnb30 := NB1005_1001.out; have hnc30 := NB1001_1005.out; have hcz31_0 := bc2_0 BK1005; have hcz31_1 := bc2_1 BK1005; have hfz31_0 := bf_ BK1005 0; have hfz31_1 := bf_ BK1005 1; have p1006 : 0 ≤ (0 : Int) := (by omega); have q1006 : 0 < (((rd_T83 l0_3 x52_2).f1).length : Int) := od_; obtain ⟨ad1006, e1006, hx1006_0, hx1006_1⟩ := at_T85 HR1004_1.out 0 p1006 q1006; cases e1006; have qi1006 : (0 < ((rd_T83 l0_3 x52_2).f1).length) = True := eq_true (by omega); (try rw [show ((0 : Int)).toNat = 0 from rfl] at hx1006_0); (try rw [show 0 * 2 = 0 from rfl] at hx1006_0); (try rw [Addr.add_zero'] at hx1006_0); (try rw [show ((0 : Int)).toNat = 0 from rfl] at hx1006_1); (try rw [show 0 * 2 = 0 from rfl] at hx1006_1); (try rw [Addr.add_zero'] at hx1006_1); have hn1006_0 : ad1006.block ≠ gb1005 := hb_ hx1006_0 GW1005; have hn1006_1 : ad1006.block ≠ gb1005 := hb_ hx1006_0 GW1005; replace hx1006_0 := kp_ HB hx1006_0; replace hx1006_1 := kp_ HB hx1006_1; replace hx1006_0 := cf_ gb1005 0 hn1006_0 (.slice A1004_0 ((rd_T83 l0_3 x52_2).f0).length c1004_0) hx1006_0; replace hx1006_1 := cf_ gb1005 0 hn1006_0 (.slice A1004_0 ((rd_T83 l0_3 x52_2).f0).length c1004_0) hx1006_1; replace hx1006_0 := cf_ gb1005 1 hn1006_1 (.slice (some ad1006) ((rd_T83 l0_3 x52_2).f1).length c1004_1) hx1006_0; replace hx1006_1 := cf_ gb1005 1 hn1006_1 (.slice (some ad1006) ((rd_T83 l0_3 x52_2).f1).length c1004_1) hx1006_1; (try have hy1006_0 := fun (n_ : Nat) => (show ((((w29.drewN n_).setCell ⟨gb1005, 0, none⟩ (.slice A1004_0 ((rd_T83 l0_3 x52_2).f0).length c1004_0)).setCell ⟨gb1005, 1, none⟩ (.slice (some ad1006) ((rd_T83 l0_3 x52_2).f1).length c1004_1))).cell? _ = some _ from hx1006_0)); (try have hy1006_1 := fun (n_ : Nat) => (show ((((w29.drewN n_).setCell ⟨gb1005, 0, none⟩ (.slice A1004_0 ((rd_T83 l0_3 x52_2).f0).length c1004_0)).setCell ⟨gb1005, 1, none⟩ (.slice (some ad1006) ((rd_T83 l0_3 x52_2).f1).length c1004_1))).cell? _ = some _ from hx1006_1)); clear hn1006_0; clear hn1006_1; replace p1006 := eq_true p1006; replace q1006 := eq_true q1006; have hcz32_0 := bc5_0 BK1001; have hcz32_1 := bc5_1 BK1001; have hcz32_2 := bc5_2 BK1001; have hcz32_3 := bc5_3 BK1001; have hcz32_4 := bc5_4 BK1001; have hfz32_0 := bf_ BK1001 0; have hfz32_1 := bf_ BK1001 1; have hfz32_2 := bf_ BK1001 2; have hfz32_3 := bf_ BK1001 3; have hfz32_4 := bf_ BK1001 4))
           repeat (go_quiet (first | ((with_reducible refine gate_dst (N := 4) rfl ?_); (try (refine gate_guard (by rfl) ?_; dsimp only)); refine bx_ 4 #[.slice none 0 0, .slice none 0 0] 83 ?_; intro gb1005 hg w29 hbox hb; have BK1005 := am_ (hbox); have GW1005 := am_ (gg_ hg : w.heap.size ≤ gb1005); have NB1001_1005 := am_ ((by rw [hg]; exact Nat.ne_of_lt (blk_lt (g := gb1001) (o := .cells #[.int .i64 a0_0, .int .i64 a0_1, .int .i64 a0_2, .slice (some ad1004) l0_3.length c0_3, .slice A0_4 l0_4.length c0_4] 31 (0, 0)) (vk_ BK1001)) : gb1001 ≠ gb1005)); have NB1005_1001 := am_ ((by rw [hg]; exact Nat.ne_of_gt (blk_lt (g := gb1001) (o := .cells #[.int .i64 a0_0, .int .i64 a0_1, .int .i64 a0_2, .slice (some ad1004) l0_3.length c0_3, .slice A0_4 l0_4.length c0_4] 31 (0, 0)) (vk_ BK1001)) : gb1005 ≠ gb1001)); replace BK1001 := am_ (blk_below (g := gb1001) (vk_ BK1001) hb); replace HB := am_ (below_step bg_ hb); have GE1005 := GW1005; clear hb hbox hg; have hnb30 := NB1005_1001.out; have hnc30 := NB1001_1005.out; have hcz31_0 := bc2_0 BK1005; have hcz31_1 := bc2_1 BK1005; have hfz31_0 := bf_ BK1005 0; have hfz31_1 := bf_ BK1005 1; have p1006 : 0 ≤ (0 : Int) := (by omega); have q1006 : 0 < (((rd_T83 l0_3 x52_2).f1).length : Int) := od_; obtain ⟨ad1006, e1006, hx1006_0, hx1006_1⟩ := at_T85 HR1004_1.out 0 p1006 q1006; cases e1006; have qi1006 : (0 < ((rd_T83 l0_3 x52_2).f1).length) = True := eq_true (by omega); (try rw [show ((0 : Int)).toNat = 0 from rfl] at hx1006_0); (try rw [show 0 * 2 = 0 from rfl] at hx1006_0); (try rw [Addr.add_zero'] at hx1006_0); (try rw [show ((0 : Int)).toNat = 0 from rfl] at hx1006_1); (try rw [show 0 * 2 = 0 from rfl] at hx1006_1); (try rw [Addr.add_zero'] at hx1006_1); have hn1006_0 : ad1006.block ≠ gb1005 := hb_ hx1006_0 GW1005; have hn1006_1 : ad1006.block ≠ gb1005 := hb_ hx1006_0 GW1005; replace hx1006_0 := kp_ HB hx1006_0; replace hx1006_1 := kp_ HB hx1006_1; replace hx1006_0 := cf_ gb1005 0 hn1006_0 (.slice A1004_0 ((rd_T83 l0_3 x52_2).f0).length c1004_0) hx1006_0; replace hx1006_1 := cf_ gb1005 0 hn1006_0 (.slice A1004_0 ((rd_T83 l0_3 x52_2).f0).length c1004_0) hx1006_1; replace hx1006_0 := cf_ gb1005 1 hn1006_1 (.slice (some ad1006) ((rd_T83 l0_3 x52_2).f1).length c1004_1) hx1006_0; replace hx1006_1 := cf_ gb1005 1 hn1006_1 (.slice (some ad1006) ((rd_T83 l0_3 x52_2).f1).length c1004_1) hx1006_1; (try have hy1006_0 := fun (n_ : Nat) => (show ((((w29.drewN n_).setCell ⟨gb1005, 0, none⟩ (.slice A1004_0 ((rd_T83 l0_3 x52_2).f0).length c1004_0)).setCell ⟨gb1005, 1, none⟩ (.slice (some ad1006) ((rd_T83 l0_3 x52_2).f1).length c1004_1))).cell? _ = some _ from hx1006_0)); (try have hy1006_1 := fun (n_ : Nat) => (show ((((w29.drewN n_).setCell ⟨gb1005, 0, none⟩ (.slice A1004_0 ((rd_T83 l0_3 x52_2).f0).length c1004_0)).setCell ⟨gb1005, 1, none⟩ (.slice (some ad1006) ((rd_T83 l0_3 x52_2).f1).length c1004_1))).cell? _ = some _ from hx1006_1)); clear hn1006_0; clear hn1006_1; replace p1006 := eq_true p1006; replace q1006 := eq_true q1006; have hcz32_0 := bc5_0 BK1001; have hcz32_1 := bc5_1 BK1001; have hcz32_2 := bc5_2 BK1001; have hcz32_3 := bc5_3 BK1001; have hcz32_4 := bc5_4 BK1001; have hfz32_0 := bf_ BK1001 0; have hfz32_1 := bf_ BK1001 1; have hfz32_2 := bf_ BK1001 2; have hfz32_3 := bf_ BK1001 3; have hfz32_4 := bf_ BK1001 4)); try go_wp2)
           go_ret
           exact ⟨rf_, bg_⟩
          ·rw [if_neg c28] at H
           have c28b0 : decide (((rd_T85 ((rd_T83 l0_3 x52_2).f1) 0).f0) < a0_0) = false := decide_eq_false c28
           clear c28
           obtain ⟨ji33, hji33⟩ : ∃ j_ : Int, (wrap64 ((((rd_T83 l0_3 x52_2).f1).length : Int) - 1)) = j_ := ⟨_, rfl⟩
           replace H : (if 0 ≤ (ji33) then (if (ji33) < (((rd_T83 l0_3 x52_2).f1).length : Int) then (if ((rd_T85 ((rd_T83 l0_3 x52_2).f1) (ji33)).f0) ≥ a0_1 then (some false) else (impl_GoodBlock.l0 k2 l0_3 (l0_3.length : Int) (wrap64 (x52_2 + 1)) a0_0 a0_1 a0_2 l0_3 l0_4)) else (none)) else (none)) = some r := by first | (rw [hji33] at H; exact H) | (simp only [hji33] at H ⊢; exact H)
           have hji33w : (IntKind.i64.wrap ((((rd_T83 l0_3 x52_2).f1).length : Int) - 1)) = ji33 := (i64_w _).trans hji33
           by_cases c34 : 0 ≤ (ji33)
           ·rw [if_pos c34] at H
            have c34b0 : decide (0 ≤ (ji33)) = true := decide_eq_true c34
            clear c34
            by_cases c35 : (ji33) < (((rd_T83 l0_3 x52_2).f1).length : Int)
            ·rw [if_pos c35] at H
             have c35b0 : decide ((ji33) < (((rd_T83 l0_3 x52_2).f1).length : Int)) = true := decide_eq_true c35
             clear c35
             by_cases c36 : ((rd_T85 ((rd_T83 l0_3 x52_2).f1) (ji33)).f0) ≥ a0_1
             ·rw [if_pos c36] at H
              have c36b0 : decide (a0_1 ≤ ((rd_T85 ((rd_T83 l0_3 x52_2).f1) (ji33)).f0)) = true := decide_eq_true c36
              clear c36
              obtain rfl := Option.some.inj H
              have p1004 : 0 ≤ (x52_2 : Int) := od_
              have q1004 : x52_2 < (l0_3.length : Int) := od_
              obtain ⟨ad1004, A1004_0, c1004_0, A1004_1, c1004_1, e1004, hx1004_0, hx1004_1, hl1004_0, hi1004_0, hl1004_1, hi1004_1⟩ := at_T83 HR0_3.out x52_2 p1004 q1004
              cases e1004
              replace hx1004_0 := kp_ HB hx1004_0
              replace hx1004_1 := kp_ HB hx1004_1
              have HR1004_0 := am_ hi1004_0
              have HC1004_0 := am_ hl1004_0
              clear hi1004_0 hl1004_0
              have HR1004_1 := am_ hi1004_1
              have HC1004_1 := am_ hl1004_1
              clear hi1004_1 hl1004_1
              replace p1004 := eq_true p1004
              replace q1004 := eq_true q1004
              go_wp2_with (first | ((with_reducible refine gate_dst (N := 4) rfl ?_); (try (refine gate_guard (by rfl) ?_; dsimp only)); refine bx_ 4 #[.slice none 0 0, .slice none 0 0] 83 ?_; intro gb1005 hg w37 hbox hb; have BK1005 := am_ (hbox); have GW1005 := am_ (gg_ hg : w.heap.size ≤ gb1005); have NB1001_1005 := am_ ((by rw [hg]; exact Nat.ne_of_lt (blk_lt (g := gb1001) (o := .cells #[.int .i64 a0_0, .int .i64 a0_1, .int .i64 a0_2, .slice (some ad1004) l0_3.length c0_3, .slice A0_4 l0_4.length c0_4] 31 (0, 0)) (vk_ BK1001)) : gb1001 ≠ gb1005)); have NB1005_1001 := am_ ((by rw [hg]; exact Nat.ne_of_gt (blk_lt (g := gb1001) (o := .cells #[.int .i64 a0_0, .int .i64 a0_1, .int .i64 a0_2, .slice (some ad1004) l0_3.length c0_3, .slice A0_4 l0_4.length c0_4] 31 (0, 0)) (vk_ BK1001)) : gb1005 ≠ gb1001)); replace BK1001 := am_ (blk_below (g := gb1001) (vk_ BK1001) hb); replace HB := am_ (below_step bg_ hb); have GE1005 := GW1005; clear hb hbox hg; have hnb38 := NB1005_1001.out; have hnc38 := NB1001_1005.out; have hcz39_0 := bc2_0 BK1005; have hcz39_1 := bc2_1 BK1005; have hfz39_0 := bf_ BK1005 0; have hfz39_1 := bf_ BK1005 1; have p1006 : 0 ≤ (0 : Int) := (by omega); have q1006 : 0 < (((rd_T83 l0_3 x52_2).f1).length : Int) := od_; obtain ⟨ad1006, e1006, hx1006_0, hx1006_1⟩ := at_T85 HR1004_1.out 0 p1006 q1006; cases e1006; have qi1006 : (0 < ((rd_T83 l0_3 x52_2).f1).length) = True := eq_true (by omega); (try rw [show ((0 : Int)).toNat = 0 from rfl] at hx1006_0); (try rw [show 0 * 2 = 0 from rfl] at hx1006_0); (try rw [Addr.add_zero'] at hx1006_0); (try rw [show ((0 : Int)).toNat = 0 from rfl] at hx1006_1); (try rw [show 0 * 2 = 0 from rfl] at hx1006_1); (try rw [Addr.add_zero'] at hx1006_1); have hn1006_0 : ad1006.block ≠ gb1005 := hb_ hx1006_0 GW1005; have hn1006_1 : ad1006.block ≠ gb1005 := hb_ hx1006_0 GW1005; replace hx1006_0 := kp_ HB hx1006_0; replace hx1006_1 := kp_ HB hx1006_1; replace hx1006_0 := cf_ gb1005 0 hn1006_0 (.slice A1004_0 ((rd_T83 l0_3 x52_2).f0).length c1004_0) hx1006_0; replace hx1006_1 := cf_ gb1005 0 hn1006_0 (.slice A1004_0 ((rd_T83 l0_3 x52_2).f0).length c1004_0) hx1006_1; replace hx1006_0 := cf_ gb1005 1 hn1006_1 (.slice (some ad1006) ((rd_T83 l0_3 x52_2).f1).length c1004_1) hx1006_0; replace hx1006_1 := cf_ gb1005 1 hn1006_1 (.slice (some ad1006) ((rd_T83 l0_3 x52_2).f1).length c1004_1) hx1006_1; (try have hy1006_0 := fun (n_ : Nat) => (show ((((w37.drewN n_).setCell ⟨gb1005, 0, none⟩ (.slice A1004_0 ((rd_T83 l0_3 x52_2).f0).length c1004_0)).setCell ⟨gb1005, 1, none⟩ (.slice (some ad1006) ((rd_T83 l0_3 x52_2).f1).length c1004_1))).cell? _ = some _ from hx1006_0)); (try have hy1006_1 := fun (n_ : Nat) => (show ((((w37.drewN n_).setCell ⟨gb1005, 0, none⟩ (.slice A1004_0 ((rd_T83 l0_3 x52_2).f0).length c1004_0)).setCell ⟨gb1005, 1, none⟩ (.slice (some ad1006) ((rd_T83 l0_3 x52_2).f1).length c1004_1))).cell? _ = some _ from hx1006_1)); clear hn1006_0; clear hn1006_1; replace p1006 := eq_true p1006; replace q1006 := eq_true q1006; have hcz40_0 := bc5_0 BK1001; have hcz40_1 := bc5_1 BK1001; have hcz40_2 := bc5_2 BK1001; have hcz40_3 := bc5_3 BK1001; have hcz40_4 := bc5_4 BK1001; have hfz40_0 := bf_ BK1001 0; have hfz40_1 := bf_ BK1001 1; have hfz40_2 := bf_ BK1001 2; have hfz40_3 := bf_ BK1001 3; have hfz40_4 := bf_ BK1001 4; have p1007 : 0 ≤ ((ji33) : Int) := od_; have q1007 : (ji33) < (((rd_T83 l0_3 x52_2).f1).length : Int) := od_; obtain ⟨ad1007, e1007, hx1007_0, hx1007_1⟩ := at_T85 HR1004_1.out (ji33) p1007 q1007; obtain rfl : ad1006 = ad1007 := (by injection e1007); have hn1007_0 : ad1006.block ≠ gb1005 := hb_ hx1007_0 GW1005; have hn1007_1 : ad1006.block ≠ gb1005 := hb_ hx1007_0 GW1005; replace hx1007_0 := kp_ HB hx1007_0; replace hx1007_1 := kp_ HB hx1007_1; replace hx1007_0 := cf_ gb1005 0 hn1007_0 (.slice A1004_0 ((rd_T83 l0_3 x52_2).f0).length c1004_0) hx1007_0; replace hx1007_1 := cf_ gb1005 0 hn1007_0 (.slice A1004_0 ((rd_T83 l0_3 x52_2).f0).length c1004_0) hx1007_1; replace hx1007_0 := cf_ gb1005 1 hn1007_1 (.slice (some ad1006) ((rd_T83 l0_3 x52_2).f1).length c1004_1) hx1007_0; replace hx1007_1 := cf_ gb1005 1 hn1007_1 (.slice (some ad1006) ((rd_T83 l0_3 x52_2).f1).length c1004_1) hx1007_1; (try have hy1007_0 := fun (n_ : Nat) => (show ((((w37.drewN n_).setCell ⟨gb1005, 0, none⟩ (.slice A1004_0 ((rd_T83 l0_3 x52_2).f0).length c1004_0)).setCell ⟨gb1005, 1, none⟩ (.slice (some ad1006) ((rd_T83 l0_3 x52_2).f1).length c1004_1))).cell? _ = some _ from hx1007_0)); (try have hy1007_1 := fun (n_ : Nat) => (show ((((w37.drewN n_).setCell ⟨gb1005, 0, none⟩ (.slice A1004_0 ((rd_T83 l0_3 x52_2).f0).length c1004_0)).setCell ⟨gb1005, 1, none⟩ (.slice (some ad1006) ((rd_T83 l0_3 x52_2).f1).length c1004_1))).cell? _ = some _ from hx1007_1)); clear hn1007_0; clear hn1007_1; replace p1007 := eq_true p1007; replace q1007 := eq_true q1007))
              repeat (go_quiet (first | ((with_reducible refine gate_dst (N := 4) rfl ?_); (try (refine gate_guard (by rfl) ?_; dsimp only)); refine bx_ 4 #[.slice none 0 0, .slice none 0 0] 83 ?_; intro gb1005 hg w37 hbox hb; have BK1005 := am_ (hbox); have GW1005 := am_ (gg_ hg : w.heap.size ≤ gb1005); have NB1001_1005 := am_ ((by rw [hg]; exact Nat.ne_of_lt (blk_lt (g := gb1001) (o := .cells #[.int .i64 a0_0, .int .i64 a0_1, .int .i64 a0_2, .slice (some ad1004) l0_3.length c0_3, .slice A0_4 l0_4.length c0_4] 31 (0, 0)) (vk_ BK1001)) : gb1001 ≠ gb1005)); have NB1005_1001 := am_ ((by rw [hg]; exact Nat.ne_of_gt (blk_lt (g := gb1001) (o := .cells #[.int .i64 a0_0, .int .i64 a0_1, .int .i64 a0_2, .slice (some ad1004) l0_3.length c0_3, .slice A0_4 l0_4.length c0_4] 31 (0, 0)) (vk_ BK1001)) : gb1005 ≠ gb1001)); replace BK1001 := am_ (blk_below (g := gb1001) (vk_ BK1001) hb); replace HB := am_ (below_step bg_ hb); have GE1005 := GW1005; clear hb hbox hg; have hnb38 := NB1005_1001.out; have hnc38 := NB1001_1005.out; have hcz39_0 := bc2_0 BK1005; have hcz39_1 := bc2_1 BK1005; have hfz39_0 := bf_ BK1005 0; have hfz39_1 := bf_ BK1005 1; have p1006 : 0 ≤ (0 : Int) := (by omega); have q1006 : 0 < (((rd_T83 l0_3 x52_2).f1).length : Int) := od_; obtain ⟨ad1006, e1006, hx1006_0, hx1006_1⟩ := at_T85 HR1004_1.out 0 p1006 q1006; cases e1006; have qi1006 : (0 < ((rd_T83 l0_3 x52_2).f1).length) = True := eq_true (by omega); (try rw [show ((0 : Int)).toNat = 0 from rfl] at hx1006_0); (try rw [show 0 * 2 = 0 from rfl] at hx1006_0); (try rw [Addr.add_zero'] at hx1006_0); (try rw [show ((0 : Int)).toNat = 0 from rfl] at hx1006_1); (try rw [show 0 * 2 = 0 from rfl] at hx1006_1); (try rw [Addr.add_zero'] at hx1006_1); have hn1006_0 : ad1006.block ≠ gb1005 := hb_ hx1006_0 GW1005; have hn1006_1 : ad1006.block ≠ gb1005 := hb_ hx1006_0 GW1005; replace hx1006_0 := kp_ HB hx1006_0; replace hx1006_1 := kp_ HB hx1006_1; replace hx1006_0 := cf_ gb1005 0 hn1006_0 (.slice A1004_0 ((rd_T83 l0_3 x52_2).f0).length c1004_0) hx1006_0; replace hx1006_1 := cf_ gb1005 0 hn1006_0 (.slice A1004_0 ((rd_T83 l0_3 x52_2).f0).length c1004_0) hx1006_1; replace hx1006_0 := cf_ gb1005 1 hn1006_1 (.slice (some ad1006) ((rd_T83 l0_3 x52_2).f1).length c1004_1) hx1006_0; replace hx1006_1 := cf_ gb1005 1 hn1006_1 (.slice (some ad1006) ((rd_T83 l0_3 x52_2).f1).length c1004_1) hx1006_1; (try have hy1006_0 := fun (n_ : Nat) => (show ((((w37.drewN n_).setCell ⟨gb1005, 0, none⟩ (.slice A1004_0 ((rd_T83 l0_3 x52_2).f0).length c1004_0)).setCell ⟨gb1005, 1, none⟩ (.slice (some ad1006) ((rd_T83 l0_3 x52_2).f1).length c1004_1))).cell? _ = some _ from hx1006_0)); (try have hy1006_1 := fun (n_ : Nat) => (show ((((w37.drewN n_).setCell ⟨gb1005, 0, none⟩ (.slice A1004_0 ((rd_T83 l0_3 x52_2).f0).length c1004_0)).setCell ⟨gb1005, 1, none⟩ (.slice (some ad1006) ((rd_T83 l0_3 x52_2).f1).length c1004_1))).cell? _ = some _ from hx1006_1)); clear hn1006_0; clear hn1006_1; replace p1006 := eq_true p1006; replace q1006 := eq_true q1006; have hcz40_0 := bc5_0 BK1001; have hcz40_1 := bc5_1 BK1001; have hcz40_2 := bc5_2 BK1001; have hcz40_3 := bc5_3 BK1001; have hcz40_4 := bc5_4 BK1001; have hfz40_0 := bf_ BK1001 0; have hfz40_1 := bf_ BK1001 1; have hfz40_2 := bf_ BK1001 2; have hfz40_3 := bf_ BK1001 3; have hfz40_4 := bf_ BK1001 4; have p1007 : 0 ≤ ((ji33) : Int) := od_; have q1007 : (ji33) < (((rd_T83 l0_3 x52_2).f1).length : Int) := od_; obtain ⟨ad1007, e1007, hx1007_0, hx1007_1⟩ := at_T85 HR1004_1.out (ji33) p1007 q1007; obtain rfl : ad1006 = ad1007 := (by injection e1007); have hn1007_0 : ad1006.block ≠ gb1005 := hb_ hx1007_0 GW1005; have hn1007_1 : ad1006.block ≠ gb1005 := hb_ hx1007_0 GW1005; replace hx1007_0 := kp_ HB hx1007_0; replace hx1007_1 := kp_ HB hx1007_1; replace hx1007_0 := cf_ gb1005 0 hn1007_0 (.slice A1004_0 ((rd_T83 l0_3 x52_2).f0).length c1004_0) hx1007_0; replace hx1007_1 := cf_ gb1005 0 hn1007_0 (.slice A1004_0 ((rd_T83 l0_3 x52_2).f0).length c1004_0) hx1007_1; replace hx1007_0 := cf_ gb1005 1 hn1007_1 (.slice (some ad1006) ((rd_T83 l0_3 x52_2).f1).length c1004_1) hx1007_0; replace hx1007_1 := cf_ gb1005 1 hn1007_1 (.slice (some ad1006) ((rd_T83 l0_3 x52_2).f1).length c1004_1) hx1007_1; (try have hy1007_0 := fun (n_ : Nat) => (show ((((w37.drewN n_).setCell ⟨gb1005, 0, none⟩ (.slice A1004_0 ((rd_T83 l0_3 x52_2).f0).length c1004_0)).setCell ⟨gb1005, 1, none⟩ (.slice (some ad1006) ((rd_T83 l0_3 x52_2).f1).length c1004_1))).cell? _ = some _ from hx1007_0)); (try have hy1007_1 := fun (n_ : Nat) => (show ((((w37.drewN n_).setCell ⟨gb1005, 0, none⟩ (.slice A1004_0 ((rd_T83 l0_3 x52_2).f0).length c1004_0)).setCell ⟨gb1005, 1, none⟩ (.slice (some ad1006) ((rd_T83 l0_3 x52_2).f1).length c1004_1))).cell? _ = some _ from hx1007_1)); clear hn1007_0; clear hn1007_1; replace p1007 := eq_true p1007; replace q1007 := eq_true q1007)); try go_wp2)
              go_ret
              exact ⟨by first | rfl | (simp [errW_none, errW_some] <;> rfl) | (simp only [← hji33]; first | rfl | (simp [errW_none, errW_some] <;> rfl)) | (simp [*, errW_none, errW_some] <;> rfl) | (simp [*, Go.Proofs.Ytknlgignjbghkaa.Gt.nil_bne]; done), bg_⟩
             ·rw [if_neg c36] at H
              have c36b0 : decide (a0_1 ≤ ((rd_T85 ((rd_T83 l0_3 x52_2).f1) (ji33)).f0)) = false := decide_eq_false c36
              clear c36
              have H' := am_ H
              clear H
              have p1004 : 0 ≤ (x52_2 : Int) := od_
              have q1004 : x52_2 < (l0_3.length : Int) := od_
              obtain ⟨ad1004, A1004_0, c1004_0, A1004_1, c1004_1, e1004, hx1004_0, hx1004_1, hl1004_0, hi1004_0, hl1004_1, hi1004_1⟩ := at_T83 HR0_3.out x52_2 p1004 q1004
              cases e1004
              replace hx1004_0 := kp_ HB hx1004_0
              replace hx1004_1 := kp_ HB hx1004_1
              have HR1004_0 := am_ hi1004_0
              have HC1004_0 := am_ hl1004_0
              clear hi1004_0 hl1004_0
              have HR1004_1 := am_ hi1004_1
              have HC1004_1 := am_ hl1004_1
              clear hi1004_1 hl1004_1
              replace p1004 := eq_true p1004
              replace q1004 := eq_true q1004
              go_wp2_with (first | ((with_reducible refine gate_dst (N := 4) rfl ?_); (try (refine gate_guard (by rfl) ?_; dsimp only)); refine bx_ 4 #[.slice none 0 0, .slice none 0 0] 83 ?_; intro gb1005 hg w41 hbox hb; have BK1005 := am_ (hbox); have GW1005 := am_ (gg_ hg : w.heap.size ≤ gb1005); have NB1001_1005 := am_ ((by rw [hg]; exact Nat.ne_of_lt (blk_lt (g := gb1001) (o := .cells #[.int .i64 a0_0, .int .i64 a0_1, .int .i64 a0_2, .slice (some ad1004) l0_3.length c0_3, .slice A0_4 l0_4.length c0_4] 31 (0, 0)) (vk_ BK1001)) : gb1001 ≠ gb1005)); have NB1005_1001 := am_ ((by rw [hg]; exact Nat.ne_of_gt (blk_lt (g := gb1001) (o := .cells #[.int .i64 a0_0, .int .i64 a0_1, .int .i64 a0_2, .slice (some ad1004) l0_3.length c0_3, .slice A0_4 l0_4.length c0_4] 31 (0, 0)) (vk_ BK1001)) : gb1005 ≠ gb1001)); replace BK1001 := am_ (blk_below (g := gb1001) (vk_ BK1001) hb); replace HB := am_ (below_step bg_ hb); have GE1005 := GW1005; clear hb hbox hg; have hnb42 := NB1005_1001.out; have hnc42 := NB1001_1005.out; have hcz43_0 := bc2_0 BK1005; have hcz43_1 := bc2_1 BK1005; have hfz43_0 := bf_ BK1005 0; have hfz43_1 := bf_ BK1005 1; have p1006 : 0 ≤ (0 : Int) := (by omega); have q1006 : 0 < (((rd_T83 l0_3 x52_2).f1).length : Int) := od_; obtain ⟨ad1006, e1006, hx1006_0, hx1006_1⟩ := at_T85 HR1004_1.out 0 p1006 q1006; cases e1006; have qi1006 : (0 < ((rd_T83 l0_3 x52_2).f1).length) = True := eq_true (by omega); (try rw [show ((0 : Int)).toNat = 0 from rfl] at hx1006_0); (try rw [show 0 * 2 = 0 from rfl] at hx1006_0); (try rw [Addr.add_zero'] at hx1006_0); (try rw [show ((0 : Int)).toNat = 0 from rfl] at hx1006_1); (try rw [show 0 * 2 = 0 from rfl] at hx1006_1); (try rw [Addr.add_zero'] at hx1006_1); have hn1006_0 : ad1006.block ≠ gb1005 := hb_ hx1006_0 GW1005; have hn1006_1 : ad1006.block ≠ gb1005 := hb_ hx1006_0 GW1005; replace hx1006_0 := kp_ HB hx1006_0; replace hx1006_1 := kp_ HB hx1006_1; replace hx1006_0 := cf_ gb1005 0 hn1006_0 (.slice A1004_0 ((rd_T83 l0_3 x52_2).f0).length c1004_0) hx1006_0; replace hx1006_1 := cf_ gb1005 0 hn1006_0 (.slice A1004_0 ((rd_T83 l0_3 x52_2).f0).length c1004_0) hx1006_1; replace hx1006_0 := cf_ gb1005 1 hn1006_1 (.slice (some ad1006) ((rd_T83 l0_3 x52_2).f1).length c1004_1) hx1006_0; replace hx1006_1 := cf_ gb1005 1 hn1006_1 (.slice (some ad1006) ((rd_T83 l0_3 x52_2).f1).length c1004_1) hx1006_1; (try have hy1006_0 := fun (n_ : Nat) => (show ((((w41.drewN n_).setCell ⟨gb1005, 0, none⟩ (.slice A1004_0 ((rd_T83 l0_3 x52_2).f0).length c1004_0)).setCell ⟨gb1005, 1, none⟩ (.slice (some ad1006) ((rd_T83 l0_3 x52_2).f1).length c1004_1))).cell? _ = some _ from hx1006_0)); (try have hy1006_1 := fun (n_ : Nat) => (show ((((w41.drewN n_).setCell ⟨gb1005, 0, none⟩ (.slice A1004_0 ((rd_T83 l0_3 x52_2).f0).length c1004_0)).setCell ⟨gb1005, 1, none⟩ (.slice (some ad1006) ((rd_T83 l0_3 x52_2).f1).length c1004_1))).cell? _ = some _ from hx1006_1)); clear hn1006_0; clear hn1006_1; replace p1006 := eq_true p1006; replace q1006 := eq_true q1006; have hcz44_0 := bc5_0 BK1001; have hcz44_1 := bc5_1 BK1001; have hcz44_2 := bc5_2 BK1001; have hcz44_3 := bc5_3 BK1001; have hcz44_4 := bc5_4 BK1001; have hfz44_0 := bf_ BK1001 0; have hfz44_1 := bf_ BK1001 1; have hfz44_2 := bf_ BK1001 2; have hfz44_3 := bf_ BK1001 3; have hfz44_4 := bf_ BK1001 4; have p1007 : 0 ≤ ((ji33) : Int) := od_; have q1007 : (ji33) < (((rd_T83 l0_3 x52_2).f1).length : Int) := od_; obtain ⟨ad1007, e1007, hx1007_0, hx1007_1⟩ := at_T85 HR1004_1.out (ji33) p1007 q1007; obtain rfl : ad1006 = ad1007 := (by injection e1007); have hn1007_0 : ad1006.block ≠ gb1005 := hb_ hx1007_0 GW1005; have hn1007_1 : ad1006.block ≠ gb1005 := hb_ hx1007_0 GW1005; replace hx1007_0 := kp_ HB hx1007_0; replace hx1007_1 := kp_ HB hx1007_1; replace hx1007_0 := cf_ gb1005 0 hn1007_0 (.slice A1004_0 ((rd_T83 l0_3 x52_2).f0).length c1004_0) hx1007_0; replace hx1007_1 := cf_ gb1005 0 hn1007_0 (.slice A1004_0 ((rd_T83 l0_3 x52_2).f0).length c1004_0) hx1007_1; replace hx1007_0 := cf_ gb1005 1 hn1007_1 (.slice (some ad1006) ((rd_T83 l0_3 x52_2).f1).length c1004_1) hx1007_0; replace hx1007_1 := cf_ gb1005 1 hn1007_1 (.slice (some ad1006) ((rd_T83 l0_3 x52_2).f1).length c1004_1) hx1007_1; (try have hy1007_0 := fun (n_ : Nat) => (show ((((w41.drewN n_).setCell ⟨gb1005, 0, none⟩ (.slice A1004_0 ((rd_T83 l0_3 x52_2).f0).length c1004_0)).setCell ⟨gb1005, 1, none⟩ (.slice (some ad1006) ((rd_T83 l0_3 x52_2).f1).length c1004_1))).cell? _ = some _ from hx1007_0)); (try have hy1007_1 := fun (n_ : Nat) => (show ((((w41.drewN n_).setCell ⟨gb1005, 0, none⟩ (.slice A1004_0 ((rd_T83 l0_3 x52_2).f0).length c1004_0)).setCell ⟨gb1005, 1, none⟩ (.slice (some ad1006) ((rd_T83 l0_3 x52_2).f1).length c1004_1))).cell? _ = some _ from hx1007_1)); clear hn1007_0; clear hn1007_1; replace p1007 := eq_true p1007; replace q1007 := eq_true q1007))
              repeat (go_quiet (first | ((with_reducible refine gate_dst (N := 4) rfl ?_); (try (refine gate_guard (by rfl) ?_; dsimp only)); refine bx_ 4 #[.slice none 0 0, .slice none 0 0] 83 ?_; intro gb1005 hg w41 hbox hb; have BK1005 := am_ (hbox); have GW1005 := am_ (gg_ hg : w.heap.size ≤ gb1005); have NB1001_1005 := am_ ((by rw [hg]; exact Nat.ne_of_lt (blk_lt (g := gb1001) (o := .cells #[.int .i64 a0_0, .int .i64 a0_1, .int .i64 a0_2, .slice (some ad1004) l0_3.length c0_3, .slice A0_4 l0_4.length c0_4] 31 (0, 0)) (vk_ BK1001)) : gb1001 ≠ gb1005)); have NB1005_1001 := am_ ((by rw [hg]; exact Nat.ne_of_gt (blk_lt (g := gb1001) (o := .cells #[.int .i64 a0_0, .int .i64 a0_1, .int .i64 a0_2, .slice (some ad1004) l0_3.length c0_3, .slice A0_4 l0_4.length c0_4] 31 (0, 0)) (vk_ BK1001)) : gb1005 ≠ gb1001)); replace BK1001 := am_ (blk_below (g := gb1001) (vk_ BK1001) hb); replace HB := am_ (below_step bg_ hb); have GE1005 := GW1005; clear hb hbox hg; have hnb42 := NB1005_1001.out; have hnc42 := NB1001_1005.out; have hcz43_0 := bc2_0 BK1005; have hcz43_1 := bc2_1 BK1005; have hfz43_0 := bf_ BK1005 0; have hfz43_1 := bf_ BK1005 1; have p1006 : 0 ≤ (0 : Int) := (by omega); have q1006 : 0 < (((rd_T83 l0_3 x52_2).f1).length : Int) := od_; obtain ⟨ad1006, e1006, hx1006_0, hx1006_1⟩ := at_T85 HR1004_1.out 0 p1006 q1006; cases e1006; have qi1006 : (0 < ((rd_T83 l0_3 x52_2).f1).length) = True := eq_true (by omega); (try rw [show ((0 : Int)).toNat = 0 from rfl] at hx1006_0); (try rw [show 0 * 2 = 0 from rfl] at hx1006_0); (try rw [Addr.add_zero'] at hx1006_0); (try rw [show ((0 : Int)).toNat = 0 from rfl] at hx1006_1); (try rw [show 0 * 2 = 0 from rfl] at hx1006_1); (try rw [Addr.add_zero'] at hx1006_1); have hn1006_0 : ad1006.block ≠ gb1005 := hb_ hx1006_0 GW1005; have hn1006_1 : ad1006.block ≠ gb1005 := hb_ hx1006_0 GW1005; replace hx1006_0 := kp_ HB hx1006_0; replace hx1006_1 := kp_ HB hx1006_1; replace hx1006_0 := cf_ gb1005 0 hn1006_0 (.slice A1004_0 ((rd_T83 l0_3 x52_2).f0).length c1004_0) hx1006_0; replace hx1006_1 := cf_ gb1005 0 hn1006_0 (.slice A1004_0 ((rd_T83 l0_3 x52_2).f0).length c1004_0) hx1006_1; replace hx1006_0 := cf_ gb1005 1 hn1006_1 (.slice (some ad1006) ((rd_T83 l0_3 x52_2).f1).length c1004_1) hx1006_0; replace hx1006_1 := cf_ gb1005 1 hn1006_1 (.slice (some ad1006) ((rd_T83 l0_3 x52_2).f1).length c1004_1) hx1006_1; (try have hy1006_0 := fun (n_ : Nat) => (show ((((w41.drewN n_).setCell ⟨gb1005, 0, none⟩ (.slice A1004_0 ((rd_T83 l0_3 x52_2).f0).length c1004_0)).setCell ⟨gb1005, 1, none⟩ (.slice (some ad1006) ((rd_T83 l0_3 x52_2).f1).length c1004_1))).cell? _ = some _ from hx1006_0)); (try have hy1006_1 := fun (n_ : Nat) => (show ((((w41.drewN n_).setCell ⟨gb1005, 0, none⟩ (.slice A1004_0 ((rd_T83 l0_3 x52_2).f0).length c1004_0)).setCell ⟨gb1005, 1, none⟩ (.slice (some ad1006) ((rd_T83 l0_3 x52_2).f1).length c1004_1))).cell? _ = some _ from hx1006_1)); clear hn1006_0; clear hn1006_1; replace p1006 := eq_true p1006; replace q1006 := eq_true q1006; have hcz44_0 := bc5_0 BK1001; have hcz44_1 := bc5_1 BK1001; have hcz44_2 := bc5_2 BK1001; have hcz44_3 := bc5_3 BK1001; have hcz44_4 := bc5_4 BK1001; have hfz44_0 := bf_ BK1001 0; have hfz44_1 := bf_ BK1001 1; have hfz44_2 := bf_ BK1001 2; have hfz44_3 := bf_ BK1001 3; have hfz44_4 := bf_ BK1001 4; have p1007 : 0 ≤ ((ji33) : Int) := od_; have q1007 : (ji33) < (((rd_T83 l0_3 x52_2).f1).length : Int) := od_; obtain ⟨ad1007, e1007, hx1007_0, hx1007_1⟩ := at_T85 HR1004_1.out (ji33) p1007 q1007; obtain rfl : ad1006 = ad1007 := (by injection e1007); have hn1007_0 : ad1006.block ≠ gb1005 := hb_ hx1007_0 GW1005; have hn1007_1 : ad1006.block ≠ gb1005 := hb_ hx1007_0 GW1005; replace hx1007_0 := kp_ HB hx1007_0; replace hx1007_1 := kp_ HB hx1007_1; replace hx1007_0 := cf_ gb1005 0 hn1007_0 (.slice A1004_0 ((rd_T83 l0_3 x52_2).f0).length c1004_0) hx1007_0; replace hx1007_1 := cf_ gb1005 0 hn1007_0 (.slice A1004_0 ((rd_T83 l0_3 x52_2).f0).length c1004_0) hx1007_1; replace hx1007_0 := cf_ gb1005 1 hn1007_1 (.slice (some ad1006) ((rd_T83 l0_3 x52_2).f1).length c1004_1) hx1007_0; replace hx1007_1 := cf_ gb1005 1 hn1007_1 (.slice (some ad1006) ((rd_T83 l0_3 x52_2).f1).length c1004_1) hx1007_1; (try have hy1007_0 := fun (n_ : Nat) => (show ((((w41.drewN n_).setCell ⟨gb1005, 0, none⟩ (.slice A1004_0 ((rd_T83 l0_3 x52_2).f0).length c1004_0)).setCell ⟨gb1005, 1, none⟩ (.slice (some ad1006) ((rd_T83 l0_3 x52_2).f1).length c1004_1))).cell? _ = some _ from hx1007_0)); (try have hy1007_1 := fun (n_ : Nat) => (show ((((w41.drewN n_).setCell ⟨gb1005, 0, none⟩ (.slice A1004_0 ((rd_T83 l0_3 x52_2).f0).length c1004_0)).setCell ⟨gb1005, 1, none⟩ (.slice (some ad1006) ((rd_T83 l0_3 x52_2).f1).length c1004_1))).cell? _ = some _ from hx1007_1)); clear hn1007_0; clear hn1007_1; replace p1007 := eq_true p1007; replace q1007 := eq_true q1007)); try go_wp2)
              go_roundg k2
              case measure => have := HJ1.out; have := HK2.out; omega
              case rel => exact ⟨(wrap64 (x52_2 + 1)), rs_, H', ⟨by have := HJ1.out; have := HK2.out; omega⟩, ⟨by (with_reducible repeat (first | refine blk_drewN ?_ _ | refine blk_drew ?_ | refine blk_alloc ?_ _)); refine blk_far ?_ NB1001_1005.out _; (with_reducible repeat (first | refine blk_drewN ?_ _ | refine blk_drew ?_ | refine blk_alloc ?_ _)); refine blk_far ?_ NB1001_1005.out _; (with_reducible repeat (first | refine blk_drewN ?_ _ | refine blk_drew ?_ | refine blk_alloc ?_ _)); exact BK1001.out⟩, ⟨bg_⟩⟩
            ·rw [if_neg c35] at H
             exact absurd H (by simp)
           ·rw [if_neg c34] at H
            exact absurd H (by simp)
         ·rw [if_neg c27] at H
          exact absurd H (by simp)
        ·rw [if_neg c26] at H
         exact absurd H (by simp)
       ·rw [if_neg c25] at H
        exact absurd H (by simp)
      ·rw [if_neg c24] at H
       have c24b0 : decide (x52_2 < (l0_3.length : Int)) = false := decide_eq_false c24
       clear c24
       have H' := am_ H
       clear H
       have hcz45_0 := bc5_0 BK1001
       have hcz45_1 := bc5_1 BK1001
       have hcz45_2 := bc5_2 BK1001
       have hcz45_3 := bc5_3 BK1001
       have hcz45_4 := bc5_4 BK1001
       have hfz45_0 := bf_ BK1001 0
       have hfz45_1 := bf_ BK1001 1
       have hfz45_2 := bf_ BK1001 2
       have hfz45_3 := bf_ BK1001 3
       have hfz45_4 := bf_ BK1001 4
       go_wp2
       repeat (go_quiet (fail); try go_wp2)
       go_loopg [82] k2 (fun kq v82 w' => ∃ (x82_3 : Int), v82 = .int .i64 x82_3 ∧ Aside0 (impl_GoodBlock.l1 kq l0_4 (l0_4.length : Int) x82_3 a0_0 a0_1 a0_2 l0_3 l0_4 = some r) ∧ Aside0 (kq ≤ k2) ∧ Aside0 (w'.heap[gb1001]? = some (.cells #[.int .i64 a0_0, .int .i64 a0_1, .int .i64 a0_2, (.slice A0_3 l0_3.length c0_3), (.slice A0_4 l0_4.length c0_4)] 31 (0, 0))) ∧ Aside0 (Below w.heap.size w w'))
       case atStart => exact ⟨(0), rs_, H', ⟨Nat.le_refl _⟩, ⟨vk_ BK1001⟩, ⟨bg_⟩⟩
       case round =>
        clear H'
        try clear c1
        try clear p1
        try clear q1
        try clear hx1
        try clear qi1
        try clear c2
        try clear p2
        try clear c3
        try clear c4
        try clear c5
        try clear c6
        try clear c6b0
        try clear p6
        try clear c8
        try clear c8b0
        try clear c10
        try clear c10b0
        try clear p10
        try clear q10
        try clear hx10
        try clear qi10
        try clear c11
        try clear c12
        try clear c12b0
        try clear c15
        try clear c22
        try clear c24
        try clear c24b0
        try clear c25
        try clear c25b0
        try clear c26
        try clear c26b0
        try clear c27
        try clear c27b0
        try clear c27b1
        try clear c28
        try clear c28b0
        try clear c30
        try clear c34
        try clear c34b0
        try clear c35
        try clear c35b0
        try clear c36
        try clear c36b0
        try clear c38
        try clear c42
        try clear hcz11_0
        try clear hcz11_1
        try clear hcz11_2
        try clear hcz11_3
        try clear hcz11_4
        try clear hcz13_0
        try clear hcz13_1
        try clear hcz13_2
        try clear hcz13_3
        try clear hcz13_4
        try clear hcz16_0
        try clear hcz16_1
        try clear hcz16_2
        try clear hcz16_3
        try clear hcz16_4
        try clear hcz18_0
        try clear hcz18_1
        try clear hcz18_2
        try clear hcz18_3
        try clear hcz18_4
        try clear hcz19_0
        try clear hcz19_1
        try clear hcz19_2
        try clear hcz19_3
        try clear hcz19_4
        try clear hcz21_0
        try clear hcz21_1
        try clear hcz21_2
        try clear hcz21_3
        try clear hcz21_4
        try clear hcz23_0
        try clear hcz23_1
        try clear hcz23_2
        try clear hcz23_3
        try clear hcz23_4
        try clear hcz31_0
        try clear hcz31_1
        try clear hcz32_0
        try clear hcz32_1
        try clear hcz32_2
        try clear hcz32_3
        try clear hcz32_4
        try clear hcz39_0
        try clear hcz39_1
        try clear hcz40_0
        try clear hcz40_1
        try clear hcz40_2
        try clear hcz40_3
        try clear hcz40_4
        try clear hcz43_0
        try clear hcz43_1
        try clear hcz44_0
        try clear hcz44_1
        try clear hcz44_2
        try clear hcz44_3
        try clear hcz44_4
        try clear hcz45_0
        try clear hcz45_1
        try clear hcz45_2
        try clear hcz45_3
        try clear hcz45_4
        try clear hcz7_0
        try clear hcz7_1
        try clear hcz7_2
        try clear hcz7_3
        try clear hcz7_4
        try clear hcz9_0
        try clear hcz9_1
        try clear hcz9_2
        try clear hcz9_3
        try clear hcz9_4
        try clear hfz11_0
        try clear hfz11_1
        try clear hfz11_2
        try clear hfz11_3
        try clear hfz11_4
        try clear hfz13_0
        try clear hfz13_1
        try clear hfz13_2
        try clear hfz13_3
        try clear hfz13_4
        try clear hfz16_0
        try clear hfz16_1
        try clear hfz16_2
        try clear hfz16_3
        try clear hfz16_4
        try clear hfz18_0
        try clear hfz18_1
        try clear hfz18_2
        try clear hfz18_3
        try clear hfz18_4
        try clear hfz19_0
        try clear hfz19_1
        try clear hfz19_2
        try clear hfz19_3
        try clear hfz19_4
        try clear hfz21_0
        try clear hfz21_1
        try clear hfz21_2
        try clear hfz21_3
        try clear hfz21_4
        try clear hfz23_0
        try clear hfz23_1
        try clear hfz23_2
        try clear hfz23_3
        try clear hfz23_4
        try clear hfz31_0
        try clear hfz31_1
        try clear hfz32_0
        try clear hfz32_1
        try clear hfz32_2
        try clear hfz32_3
        try clear hfz32_4
        try clear hfz39_0
        try clear hfz39_1
        try clear hfz40_0
        try clear hfz40_1
        try clear hfz40_2
        try clear hfz40_3
        try clear hfz40_4
        try clear hfz43_0
        try clear hfz43_1
        try clear hfz44_0
        try clear hfz44_1
        try clear hfz44_2
        try clear hfz44_3
        try clear hfz44_4
        try clear hfz45_0
        try clear hfz45_1
        try clear hfz45_2
        try clear hfz45_3
        try clear hfz45_4
        try clear hfz7_0
        try clear hfz7_1
        try clear hfz7_2
        try clear hfz7_3
        try clear hfz7_4
        try clear hfz9_0
        try clear hfz9_1
        try clear hfz9_2
        try clear hfz9_3
        try clear hfz9_4
        try clear hx1004_0
        try clear hx1004_1
        try clear hx1006_0
        try clear hx1006_1
        try clear hx1007_0
        try clear hx1007_1
        try clear p1004
        try clear p1006
        try clear p1007
        try clear p2
        try clear q1004
        try clear q1006
        try clear q1007
        obtain ⟨x82_3, rfl, HA, HK3, BK1001, HB⟩ := hrel
        cases gk with
        | zero => exact absurd HA.out (by simp [impl_GoodBlock.l1])
        | succ k3 =>
         have H := HA.out
         clear HA
         simp only [impl_GoodBlock.l1] at H
         by_cases c46 : x82_3 < (l0_4.length : Int)
         ·rw [if_pos c46] at H
          have c46b0 : decide (x82_3 < (l0_4.length : Int)) = true := decide_eq_true c46
          clear c46
          by_cases c47 : 0 ≤ x82_3
          ·rw [if_pos c47] at H
           have c47b0 : decide (0 ≤ x82_3) = true := decide_eq_true c47
           clear c47
           by_cases c48 : x82_3 < (l0_4.length : Int)
           ·rw [if_pos c48] at H
            have c48b0 : decide (x82_3 < (l0_4.length : Int)) = true := decide_eq_true c48
            clear c48
            have HC49 := am_ H
            clear H
            have p1008 : 0 ≤ (x82_3 : Int) := od_
            have q1008 : x82_3 < (l0_4.length : Int) := od_
            obtain ⟨ad1008, A1008_0, c1008_0, e1008, hx1008_0, hx1008_1, hx1008_2, hl1008_0, hi1008_0⟩ := at_T87 HR0_4.out x82_3 p1008 q1008
            cases e1008
            replace hx1008_0 := kp_ HB hx1008_0
            replace hx1008_1 := kp_ HB hx1008_1
            replace hx1008_2 := kp_ HB hx1008_2
            have HR1008_0 := am_ hi1008_0
            have HC1008_0 := am_ hl1008_0
            clear hi1008_0 hl1008_0
            replace p1008 := eq_true p1008
            replace q1008 := eq_true q1008
            go_upto_region 12 with (first | ((with_reducible refine gate_dst (N := 6) rfl ?_); (try (refine gate_guard (by rfl) ?_; dsimp only)); refine bx_ 6 #[.slice none 0 0, .int .i64 0, .int .i64 0] 87 ?_; intro gb1009 hg w50 hbox hb; have BK1009 := am_ (hbox); have GW1009 := am_ (gg_ hg : w.heap.size ≤ gb1009); have NB1001_1009 := am_ ((by rw [hg]; exact Nat.ne_of_lt (blk_lt (g := gb1001) (o := .cells #[.int .i64 a0_0, .int .i64 a0_1, .int .i64 a0_2, .slice A0_3 l0_3.length c0_3, .slice (some ad1008) l0_4.length c0_4] 31 (0, 0)) (vk_ BK1001)) : gb1001 ≠ gb1009)); have NB1009_1001 := am_ ((by rw [hg]; exact Nat.ne_of_gt (blk_lt (g := gb1001) (o := .cells #[.int .i64 a0_0, .int .i64 a0_1, .int .i64 a0_2, .slice A0_3 l0_3.length c0_3, .slice (some ad1008) l0_4.length c0_4] 31 (0, 0)) (vk_ BK1001)) : gb1009 ≠ gb1001)); replace BK1001 := am_ (blk_below (g := gb1001) (vk_ BK1001) hb); replace HB := am_ (below_step bg_ hb); have GE1009 := GW1009; clear hb hbox hg; have hnb51 := NB1009_1001.out; have hnc51 := NB1001_1009.out; have hcz52_0 := bc3_0 BK1009; have hcz52_1 := bc3_1 BK1009; have hcz52_2 := bc3_2 BK1009; have hfz52_0 := bf_ BK1009 0; have hfz52_1 := bf_ BK1009 1; have hfz52_2 := bf_ BK1009 2))
            repeat (go_quiet (first | ((with_reducible refine gate_dst (N := 6) rfl ?_); (try (refine gate_guard (by rfl) ?_; dsimp only)); refine bx_ 6 #[.slice none 0 0, .int .i64 0, .int .i64 0] 87 ?_; intro gb1009 hg w50 hbox hb; have BK1009 := am_ (hbox); have GW1009 := am_ (gg_ hg : w.heap.size ≤ gb1009); have NB1001_1009 := am_ ((by rw [hg]; exact Nat.ne_of_lt (blk_lt (g := gb1001) (o := .cells #[.int .i64 a0_0, .int .i64 a0_1, .int .i64 a0_2, .slice A0_3 l0_3.length c0_3, .slice (some ad1008) l0_4.length c0_4] 31 (0, 0)) (vk_ BK1001)) : gb1001 ≠ gb1009)); have NB1009_1001 := am_ ((by rw [hg]; exact Nat.ne_of_gt (blk_lt (g := gb1001) (o := .cells #[.int .i64 a0_0, .int .i64 a0_1, .int .i64 a0_2, .slice A0_3 l0_3.length c0_3, .slice (some ad1008) l0_4.length c0_4] 31 (0, 0)) (vk_ BK1001)) : gb1009 ≠ gb1001)); replace BK1001 := am_ (blk_below (g := gb1001) (vk_ BK1001) hb); replace HB := am_ (below_step bg_ hb); have GE1009 := GW1009; clear hb hbox hg; have hnb51 := NB1009_1001.out; have hnc51 := NB1001_1009.out; have hcz52_0 := bc3_0 BK1009; have hcz52_1 := bc3_1 BK1009; have hcz52_2 := bc3_2 BK1009; have hfz52_0 := bf_ BK1009 0; have hfz52_1 := bf_ BK1009 1; have hfz52_2 := bf_ BK1009 2)); go_upto_region 12 with (first | ((with_reducible refine gate_dst (N := 6) rfl ?_); (try (refine gate_guard (by rfl) ?_; dsimp only)); refine bx_ 6 #[.slice none 0 0, .int .i64 0, .int .i64 0] 87 ?_; intro gb1009 hg w50 hbox hb; have BK1009 := am_ (hbox); have GW1009 := am_ (gg_ hg : w.heap.size ≤ gb1009); have NB1001_1009 := am_ ((by rw [hg]; exact Nat.ne_of_lt (blk_lt (g := gb1001) (o := .cells #[.int .i64 a0_0, .int .i64 a0_1, .int .i64 a0_2, .slice A0_3 l0_3.length c0_3, .slice (some ad1008) l0_4.length c0_4] 31 (0, 0)) (vk_ BK1001)) : gb1001 ≠ gb1009)); have NB1009_1001 := am_ ((by rw [hg]; exact Nat.ne_of_gt (blk_lt (g := gb1001) (o := .cells #[.int .i64 a0_0, .int .i64 a0_1, .int .i64 a0_2, .slice A0_3 l0_3.length c0_3, .slice (some ad1008) l0_4.length c0_4] 31 (0, 0)) (vk_ BK1001)) : gb1009 ≠ gb1001)); replace BK1001 := am_ (blk_below (g := gb1001) (vk_ BK1001) hb); replace HB := am_ (below_step bg_ hb); have GE1009 := GW1009; clear hb hbox hg; have hnb51 := NB1009_1001.out; have hnc51 := NB1001_1009.out; have hcz52_0 := bc3_0 BK1009; have hcz52_1 := bc3_1 BK1009; have hcz52_2 := bc3_2 BK1009; have hfz52_0 := bf_ BK1009 0; have hfz52_1 := bf_ BK1009 1; have hfz52_2 := bf_ BK1009 2)))
            (try simp only [Act.put, List.setIfInBounds_toArray, List.set_cons_zero, List.set_cons_succ])
            go_cut [111] (fun v111 wc => ∃ (kq : Nat) (x111_48 : Bool), v111 = .bool x111_48 ∧ Aside0 (impl_GoodBlock.j3 kq x82_3 l0_4 (l0_4.length : Int) x82_3 x111_48 a0_0 a0_1 a0_2 l0_3 l0_4 ((rd_T87 l0_4 x82_3).f0) ((rd_T87 l0_4 x82_3).f1) ((rd_T87 l0_4 x82_3).f2) = some r) ∧ Aside0 (kq ≤ k3) ∧ Aside0 (wc.heap[gb1001]? = some (.cells #[.int .i64 a0_0, .int .i64 a0_1, .int .i64 a0_2, (.slice A0_3 l0_3.length c0_3), (.slice (some ad1008) l0_4.length c0_4)] 31 (0, 0))) ∧ Aside0 (wc.heap[gb1009]? = some (.cells #[(.slice A1008_0 ((rd_T87 l0_4 x82_3).f0).length c1008_0), .int .i64 ((rd_T87 l0_4 x82_3).f1), .int .i64 ((rd_T87 l0_4 x82_3).f2)] 87 (0, 0))) ∧ Aside0 (Below w.heap.size w wc))
            case first =>
             have H := HC49.out
             clear HC49
             replace H := Option.bind_eq_some_iff.mp H
             obtain ⟨t1010, A530, H⟩ := H
             replace H : (if t1010 = true then (if ((rd_T87 l0_4 x82_3).f1) < a0_0 then (impl_GoodBlock.j3 k3 x82_3 l0_4 (l0_4.length : Int) x82_3 true a0_0 a0_1 a0_2 l0_3 l0_4 ((rd_T87 l0_4 x82_3).f0) ((rd_T87 l0_4 x82_3).f1) ((rd_T87 l0_4 x82_3).f2)) else (if ((rd_T87 l0_4 x82_3).f2) ≥ a0_1 then (impl_GoodBlock.j3 k3 x82_3 l0_4 (l0_4.length : Int) x82_3 true a0_0 a0_1 a0_2 l0_3 l0_4 ((rd_T87 l0_4 x82_3).f0) ((rd_T87 l0_4 x82_3).f1) ((rd_T87 l0_4 x82_3).f2)) else (impl_GoodBlock.j3 k3 x82_3 l0_4 (l0_4.length : Int) x82_3 (decide (((rd_T87 l0_4 x82_3).f1) > ((rd_T87 l0_4 x82_3).f2))) a0_0 a0_1 a0_2 l0_3 l0_4 ((rd_T87 l0_4 x82_3).f0) ((rd_T87 l0_4 x82_3).f1) ((rd_T87 l0_4 x82_3).f2)))) else (impl_GoodBlock.j3 k3 x82_3 l0_4 (l0_4.length : Int) x82_3 true a0_0 a0_1 a0_2 l0_3 l0_4 ((rd_T87 l0_4 x82_3).f0) ((rd_T87 l0_4 x82_3).f1) ((rd_T87 l0_4 x82_3).f2))) = some r := H
             have A53 := am_ A530
             clear A530
             by_cases c54 : t1010 = true
             ·subst c54
              have H1 : (if ((rd_T87 l0_4 x82_3).f1) < a0_0 then (impl_GoodBlock.j3 k3 x82_3 l0_4 (l0_4.length : Int) x82_3 true a0_0 a0_1 a0_2 l0_3 l0_4 ((rd_T87 l0_4 x82_3).f0) ((rd_T87 l0_4 x82_3).f1) ((rd_T87 l0_4 x82_3).f2)) else (if ((rd_T87 l0_4 x82_3).f2) ≥ a0_1 then (impl_GoodBlock.j3 k3 x82_3 l0_4 (l0_4.length : Int) x82_3 true a0_0 a0_1 a0_2 l0_3 l0_4 ((rd_T87 l0_4 x82_3).f0) ((rd_T87 l0_4 x82_3).f1) ((rd_T87 l0_4 x82_3).f2)) else (impl_GoodBlock.j3 k3 x82_3 l0_4 (l0_4.length : Int) x82_3 (decide (((rd_T87 l0_4 x82_3).f1) > ((rd_T87 l0_4 x82_3).f2))) a0_0 a0_1 a0_2 l0_3 l0_4 ((rd_T87 l0_4 x82_3).f0) ((rd_T87 l0_4 x82_3).f1) ((rd_T87 l0_4 x82_3).f2)))) = some r := by rw [if_pos rfl] at H; exact H
              clear H
              have H := H1
              clear H1
              by_cases c55 : ((rd_T87 l0_4 x82_3).f1) < a0_0
              ·rw [if_pos c55] at H
               have c55b0 : decide (((rd_T87 l0_4 x82_3).f1) < a0_0) = true := decide_eq_true c55
               clear c55
               (first | rw [c55b0] | (simp only [i64_w, i32_w]; rw [c55b0]) | skip)
               have H' := am_ H
               clear H
               have hnb56 := NB1009_1001.out
               have hnc56 := NB1001_1009.out
               have hcz57_0 := bc3_0 BK1009
               have hcz57_1 := bc3_1 BK1009
               have hcz57_2 := bc3_2 BK1009
               have hfz57_0 := bf_ BK1009 0
               have hfz57_1 := bf_ BK1009 1
               have hfz57_2 := bf_ BK1009 2
               go_wp2_with (first | (go_at_call 54; (with_reducible refine (impl_GoodLabels.calls k3 _ _ ((rd_T87 l0_4 x82_3).f0) true _ ?side1 ?side2 A53.out).mono ?_); (case side1 => exact Kd.C_below HR1008_0.out bg_); (case side2 => exact HC1008_0.out); rintro e w58 ⟨rfl, hb⟩; replace BK1001 := am_ (blk_below (g := gb1001) (o := .cells #[.int .i64 a0_0, .int .i64 a0_1, .int .i64 a0_2, .slice A0_3 l0_3.length c0_3, .slice (some ad1008) l0_4.length c0_4] 31 (0, 0)) (by (with_reducible repeat (first | refine blk_drewN ?_ _ | refine blk_drew ?_ | refine blk_alloc ?_ _)); refine blk_far ?_ NB1001_1009.out _; (with_reducible repeat (first | refine blk_drewN ?_ _ | refine blk_drew ?_ | refine blk_alloc ?_ _)); refine blk_far ?_ NB1001_1009.out _; (with_reducible repeat (first | refine blk_drewN ?_ _ | refine blk_drew ?_ | refine blk_alloc ?_ _)); refine blk_far ?_ NB1001_1009.out _; (with_reducible repeat (first | refine blk_drewN ?_ _ | refine blk_drew ?_ | refine blk_alloc ?_ _)); exact BK1001.out) hb); replace BK1009 := am_ (blk_below (g := gb1009) (o := .cells #[.slice A1008_0 ((rd_T87 l0_4 x82_3).f0).length c1008_0, .int .i64 ((rd_T87 l0_4 x82_3).f1), .int .i64 ((rd_T87 l0_4 x82_3).f2)] 87 (0, 0)) (by (with_reducible repeat (first | refine blk_drewN ?_ _ | refine blk_drew ?_ | refine blk_alloc ?_ _)); refine blk_put (cs := #[.slice A1008_0 ((rd_T87 l0_4 x82_3).f0).length c1008_0, .int .i64 ((rd_T87 l0_4 x82_3).f1), .int .i64 0]) ?_ 2 _ rfl; (with_reducible repeat (first | refine blk_drewN ?_ _ | refine blk_drew ?_ | refine blk_alloc ?_ _)); refine blk_put (cs := #[.slice A1008_0 ((rd_T87 l0_4 x82_3).f0).length c1008_0, .int .i64 0, .int .i64 0]) ?_ 1 _ rfl; (with_reducible repeat (first | refine blk_drewN ?_ _ | refine blk_drew ?_ | refine blk_alloc ?_ _)); refine blk_put (cs := #[.slice none 0 0, .int .i64 0, .int .i64 0]) ?_ 0 _ rfl; (with_reducible repeat (first | refine blk_drewN ?_ _ | refine blk_drew ?_ | refine blk_alloc ?_ _)); exact BK1009.out) hb); replace HB := am_ (below_step bg_ hb); (try clear hb); (try clear hb2); (try clear hk); (try clear hi); have hcz59_0 := bc3_0 BK1009; have hcz59_1 := bc3_1 BK1009; have hcz59_2 := bc3_2 BK1009; have hfz59_0 := bf_ BK1009 0; have hfz59_1 := bf_ BK1009 1; have hfz59_2 := bf_ BK1009 2; have hcz60_0 := bc5_0 BK1001; have hcz60_1 := bc5_1 BK1001; have hcz60_2 := bc5_2 BK1001; have hcz60_3 := bc5_3 BK1001; have hcz60_4 := bc5_4 BK1001; have hfz60_0 := bf_ BK1001 0; have hfz60_1 := bf_ BK1001 1; have hfz60_2 := bf_ BK1001 2; have hfz60_3 := bf_ BK1001 3; have hfz60_4 := bf_ BK1001 4))
               repeat (go_quiet (first | (go_at_call 54; (with_reducible refine (impl_GoodLabels.calls k3 _ _ ((rd_T87 l0_4 x82_3).f0) true _ ?side1 ?side2 A53.out).mono ?_); (case side1 => exact Kd.C_below HR1008_0.out bg_); (case side2 => exact HC1008_0.out); rintro e w58 ⟨rfl, hb⟩; replace BK1001 := am_ (blk_below (g := gb1001) (o := .cells #[.int .i64 a0_0, .int .i64 a0_1, .int .i64 a0_2, .slice A0_3 l0_3.length c0_3, .slice (some ad1008) l0_4.length c0_4] 31 (0, 0)) (by (with_reducible repeat (first | refine blk_drewN ?_ _ | refine blk_drew ?_ | refine blk_alloc ?_ _)); refine blk_far ?_ NB1001_1009.out _; (with_reducible repeat (first | refine blk_drewN ?_ _ | refine blk_drew ?_ | refine blk_alloc ?_ _)); refine blk_far ?_ NB1001_1009.out _; (with_reducible repeat (first | refine blk_drewN ?_ _ | refine blk_drew ?_ | refine blk_alloc ?_ _)); refine blk_far ?_ NB1001_1009.out _; (with_reducible repeat (first | refine blk_drewN ?_ _ | refine blk_drew ?_ | refine blk_alloc ?_ _)); exact BK1001.out) hb); replace BK1009 := am_ (blk_below (g := gb1009) (o := .cells #[.slice A1008_0 ((rd_T87 l0_4 x82_3).f0).length c1008_0, .int .i64 ((rd_T87 l0_4 x82_3).f1), .int .i64 ((rd_T87 l0_4 x82_3).f2)] 87 (0, 0)) (by (with_reducible repeat (first | refine blk_drewN ?_ _ | refine blk_drew ?_ | refine blk_alloc ?_ _)); refine blk_put (cs := #[.slice A1008_0 ((rd_T87 l0_4 x82_3).f0).length c1008_0, .int .i64 ((rd_T87 l0_4 x82_3).f1), .int .i64 0]) ?_ 2 _ rfl; (with_reducible repeat (first | refine blk_drewN ?_ _ | refine blk_drew ?_ | refine blk_alloc ?_ _)); refine blk_put (cs := #[.slice A1008_0 ((rd_T87 l0_4 x82_3).f0).length c1008_0, .int .i64 0, .int .i64 0]) ?_ 1 _ rfl; (with_reducible repeat (first | refine blk_drewN ?_ _ | refine blk_drew ?_ | refine blk_alloc ?_ _)); refine blk_put (cs := #[.slice none 0 0, .int .i64 0, .int .i64 0]) ?_ 0 _ rfl; (with_reducible repeat (first | refine blk_drewN ?_ _ | refine blk_drew ?_ | refine blk_alloc ?_ _)); exact BK1009.out) hb); replace HB := am_ (below_step bg_ hb); (try clear hb); (try clear hb2); (try clear hk); (try clear hi); have hcz59_0 := bc3_0 BK1009; have hcz59_1 := bc3_1 BK1009; have hcz59_2 := bc3_2 BK1009; have hfz59_0 := bf_ BK1009 0; have hfz59_1 := bf_ BK1009 1; have hfz59_2 := bf_ BK1009 2; have hcz60_0 := bc5_0 BK1001; have hcz60_1 := bc5_1 BK1001; have hcz60_2 := bc5_2 BK1001; have hcz60_3 := bc5_3 BK1001; have hcz60_4 := bc5_4 BK1001; have hfz60_0 := bf_ BK1001 0; have hfz60_1 := bf_ BK1001 1; have hfz60_2 := bf_ BK1001 2; have hfz60_3 := bf_ BK1001 3; have hfz60_4 := bf_ BK1001 4)); try go_wp2)
               go_meet
               case rel => exact ⟨_, (true), rs_, H', ⟨by have := HJ1.out; have := HK2.out; have := HK3.out; first | omega | exact Nat.le_refl _⟩, ⟨vk_ BK1001⟩, ⟨vk_ BK1009⟩, ⟨bg_⟩⟩
              ·rw [if_neg c55] at H
               have c55b0 : decide (((rd_T87 l0_4 x82_3).f1) < a0_0) = false := decide_eq_false c55
               clear c55
               (first | rw [c55b0] | (simp only [i64_w, i32_w]; rw [c55b0]) | skip)
               by_cases c61 : ((rd_T87 l0_4 x82_3).f2) ≥ a0_1
               ·rw [if_pos c61] at H
                have c61b0 : decide (a0_1 ≤ ((rd_T87 l0_4 x82_3).f2)) = true := decide_eq_true c61
                clear c61
                have H' := am_ H
                clear H
                have hnb62 := NB1009_1001.out
                have hnc62 := NB1001_1009.out
                have hcz63_0 := bc3_0 BK1009
                have hcz63_1 := bc3_1 BK1009
                have hcz63_2 := bc3_2 BK1009
                have hfz63_0 := bf_ BK1009 0
                have hfz63_1 := bf_ BK1009 1
                have hfz63_2 := bf_ BK1009 2
                go_wp2_with (first | (go_at_call 54; (with_reducible refine (impl_GoodLabels.calls k3 _ _ ((rd_T87 l0_4 x82_3).f0) true _ ?side1 ?side2 A53.out).mono ?_); (case side1 => exact Kd.C_below HR1008_0.out bg_); (case side2 => exact HC1008_0.out); rintro e w64 ⟨rfl, hb⟩; replace BK1001 := am_ (blk_below (g := gb1001) (o := .cells #[.int .i64 a0_0, .int .i64 a0_1, .int .i64 a0_2, .slice A0_3 l0_3.length c0_3, .slice (some ad1008) l0_4.length c0_4] 31 (0, 0)) (by (with_reducible repeat (first | refine blk_drewN ?_ _ | refine blk_drew ?_ | refine blk_alloc ?_ _)); refine blk_far ?_ NB1001_1009.out _; (with_reducible repeat (first | refine blk_drewN ?_ _ | refine blk_drew ?_ | refine blk_alloc ?_ _)); refine blk_far ?_ NB1001_1009.out _; (with_reducible repeat (first | refine blk_drewN ?_ _ | refine blk_drew ?_ | refine blk_alloc ?_ _)); refine blk_far ?_ NB1001_1009.out _; (with_reducible repeat (first | refine blk_drewN ?_ _ | refine blk_drew ?_ | refine blk_alloc ?_ _)); exact BK1001.out) hb); replace BK1009 := am_ (blk_below (g := gb1009) (o := .cells #[.slice A1008_0 ((rd_T87 l0_4 x82_3).f0).length c1008_0, .int .i64 ((rd_T87 l0_4 x82_3).f1), .int .i64 ((rd_T87 l0_4 x82_3).f2)] 87 (0, 0)) (by (with_reducible repeat (first | refine blk_drewN ?_ _ | refine blk_drew ?_ | refine blk_alloc ?_ _)); refine blk_put (cs := #[.slice A1008_0 ((rd_T87 l0_4 x82_3).f0).length c1008_0, .int .i64 ((rd_T87 l0_4 x82_3).f1), .int .i64 0]) ?_ 2 _ rfl; (with_reducible repeat (first | refine blk_drewN ?_ _ | refine blk_drew ?_ | refine blk_alloc ?_ _)); refine blk_put (cs := #[.slice A1008_0 ((rd_T87 l0_4 x82_3).f0).length c1008_0, .int .i64 0, .int .i64 0]) ?_ 1 _ rfl; (with_reducible repeat (first | refine blk_drewN ?_ _ | refine blk_drew ?_ | refine blk_alloc ?_ _)); refine blk_put (cs := #[.slice none 0 0, .int .i64 0, .int .i64 0]) ?_ 0 _ rfl; (with_reducible repeat (first | refine blk_drewN ?_ _ | refine blk_drew ?_ | refine blk_alloc ?_ _)); exact BK1009.out) hb); replace HB := am_ (below_step bg_ hb); (try clear hb); (try clear hb2); (try clear hk); (try clear hi); have hcz65_0 := bc3_0 BK1009; have hcz65_1 := bc3_1 BK1009; have hcz65_2 := bc3_2 BK1009; have hfz65_0 := bf_ BK1009 0; have hfz65_1 := bf_ BK1009 1; have hfz65_2 := bf_ BK1009 2; have hcz66_0 := bc5_0 BK1001; have hcz66_1 := bc5_1 BK1001; have hcz66_2 := bc5_2 BK1001; have hcz66_3 := bc5_3 BK1001; have hcz66_4 := bc5_4 BK1001; have hfz66_0 := bf_ BK1001 0; have hfz66_1 := bf_ BK1001 1; have hfz66_2 := bf_ BK1001 2; have hfz66_3 := bf_ BK1001 3; have hfz66_4 := bf_ BK1001 4))
                repeat (go_quiet (first | (go_at_call 54; (with_reducible refine (impl_GoodLabels.calls k3 _ _ ((rd_T87 l0_4 x82_3).f0) true _ ?side1 ?side2 A53.out).mono ?_); (case side1 => exact Kd.C_below HR1008_0.out bg_); (case side2 => exact HC1008_0.out); rintro e w64 ⟨rfl, hb⟩; replace BK1001 := am_ (blk_below (g := gb1001) (o := .cells #[.int .i64 a0_0, .int .i64 a0_1, .int .i64 a0_2, .slice A0_3 l0_3.length c0_3, .slice (some ad1008) l0_4.length c0_4] 31 (0, 0)) (by (with_reducible repeat (first | refine blk_drewN ?_ _ | refine blk_drew ?_ | refine blk_alloc ?_ _)); refine blk_far ?_ NB1001_1009.out _; (with_reducible repeat (first | refine blk_drewN ?_ _ | refine blk_drew ?_ | refine blk_alloc ?_ _)); refine blk_far ?_ NB1001_1009.out _; (with_reducible repeat (first | refine blk_drewN ?_ _ | refine blk_drew ?_ | refine blk_alloc ?_ _)); refine blk_far ?_ NB1001_1009.out _; (with_reducible repeat (first | refine blk_drewN ?_ _ | refine blk_drew ?_ | refine blk_alloc ?_ _)); exact BK1001.out) hb); replace BK1009 := am_ (blk_below (g := gb1009) (o := .cells #[.slice A1008_0 ((rd_T87 l0_4 x82_3).f0).length c1008_0, .int .i64 ((rd_T87 l0_4 x82_3).f1), .int .i64 ((rd_T87 l0_4 x82_3).f2)] 87 (0, 0)) (by (with_reducible repeat (first | refine blk_drewN ?_ _ | refine blk_drew ?_ | refine blk_alloc ?_ _)); refine blk_put (cs := #[.slice A1008_0 ((rd_T87 l0_4 x82_3).f0).length c1008_0, .int .i64 ((rd_T87 l0_4 x82_3).f1), .int .i64 0]) ?_ 2 _ rfl; (with_reducible repeat (first | refine blk_drewN ?_ _ | refine blk_drew ?_ | refine blk_alloc ?_ _)); refine blk_put (cs := #[.slice A1008_0 ((rd_T87 l0_4 x82_3).f0).length c1008_0, .int .i64 0, .int .i64 0]) ?_ 1 _ rfl; (with_reducible repeat (first | refine blk_drewN ?_ _ | refine blk_drew ?_ | refine blk_alloc ?_ _)); refine blk_put (cs := #[.slice none 0 0, .int .i64 0, .int .i64 0]) ?_ 0 _ rfl; (with_reducible repeat (first | refine blk_drewN ?_ _ | refine blk_drew ?_ | refine blk_alloc ?_ _)); exact BK1009.out) hb); replace HB := am_ (below_step bg_ hb); (try clear hb); (try clear hb2); (try clear hk); (try clear hi); have hcz65_0 := bc3_0 BK1009; have hcz65_1 := bc3_1 BK1009; have hcz65_2 := bc3_2 BK1009; have hfz65_0 := bf_ BK1009 0; have hfz65_1 := bf_ BK1009 1; have hfz65_2 := bf_ BK1009 2; have hcz66_0 := bc5_0 BK1001; have hcz66_1 := bc5_1 BK1001; have hcz66_2 := bc5_2 BK1001; have hcz66_3 := bc5_3 BK1001; have hcz66_4 := bc5_4 BK1001; have hfz66_0 := bf_ BK1001 0; have hfz66_1 := bf_ BK1001 1; have hfz66_2 := bf_ BK1001 2; have hfz66_3 := bf_ BK1001 3; have hfz66_4 := bf_ BK1001 4)); try go_wp2)
                go_meet
                case rel => exact ⟨_, (true), rs_, H', ⟨by have := HJ1.out; have := HK2.out; have := HK3.out; first | omega | exact Nat.le_refl _⟩, ⟨vk_ BK1001⟩, ⟨vk_ BK1009⟩, ⟨bg_⟩⟩
               ·rw [if_neg c61] at H
                have c61b0 : decide (a0_1 ≤ ((rd_T87 l0_4 x82_3).f2)) = false := decide_eq_false c61
                clear c61
                have H' := am_ H
                clear H
                have hnb67 := NB1009_1001.out
                have hnc67 := NB1001_1009.out
                have hcz68_0 := bc3_0 BK1009
                have hcz68_1 := bc3_1 BK1009
                have hcz68_2 := bc3_2 BK1009
                have hfz68_0 := bf_ BK1009 0
                have hfz68_1 := bf_ BK1009 1
                have hfz68_2 := bf_ BK1009 2
                go_wp2_with (first | (go_at_call 54; (with_reducible refine (impl_GoodLabels.calls k3 _ _ ((rd_T87 l0_4 x82_3).f0) true _ ?side1 ?side2 A53.out).mono ?_); (case side1 => exact Kd.C_below HR1008_0.out bg_); (case side2 => exact HC1008_0.out); rintro e w69 ⟨rfl, hb⟩; replace BK1001 := am_ (blk_below (g := gb1001) (o := .cells #[.int .i64 a0_0, .int .i64 a0_1, .int .i64 a0_2, .slice A0_3 l0_3.length c0_3, .slice (some ad1008) l0_4.length c0_4] 31 (0, 0)) (by (with_reducible repeat (first | refine blk_drewN ?_ _ | refine blk_drew ?_ | refine blk_alloc ?_ _)); refine blk_far ?_ NB1001_1009.out _; (with_reducible repeat (first | refine blk_drewN ?_ _ | refine blk_drew ?_ | refine blk_alloc ?_ _)); refine blk_far ?_ NB1001_1009.out _; (with_reducible repeat (first | refine blk_drewN ?_ _ | refine blk_drew ?_ | refine blk_alloc ?_ _)); refine blk_far ?_ NB1001_1009.out _; (with_reducible repeat (first | refine blk_drewN ?_ _ | refine blk_drew ?_ | refine blk_alloc ?_ _)); exact BK1001.out) hb); replace BK1009 := am_ (blk_below (g := gb1009) (o := .cells #[.slice A1008_0 ((rd_T87 l0_4 x82_3).f0).length c1008_0, .int .i64 ((rd_T87 l0_4 x82_3).f1), .int .i64 ((rd_T87 l0_4 x82_3).f2)] 87 (0, 0)) (by (with_reducible repeat (first | refine blk_drewN ?_ _ | refine blk_drew ?_ | refine blk_alloc ?_ _)); refine blk_put (cs := #[.slice A1008_0 ((rd_T87 l0_4 x82_3).f0).length c1008_0, .int .i64 ((rd_T87 l0_4 x82_3).f1), .int .i64 0]) ?_ 2 _ rfl; (with_reducible repeat (first | refine blk_drewN ?_ _ | refine blk_drew ?_ | refine blk_alloc ?_ _)); refine blk_put (cs := #[.slice A1008_0 ((rd_T87 l0_4 x82_3).f0).length c1008_0, .int .i64 0, .int .i64 0]) ?_ 1 _ rfl; (with_reducible repeat (first | refine blk_drewN ?_ _ | refine blk_drew ?_ | refine blk_alloc ?_ _)); refine blk_put (cs := #[.slice none 0 0, .int .i64 0, .int .i64 0]) ?_ 0 _ rfl; (with_reducible repeat (first | refine blk_drewN ?_ _ | refine blk_drew ?_ | refine blk_alloc ?_ _)); exact BK1009.out) hb); replace HB := am_ (below_step bg_ hb); (try clear hb); (try clear hb2); (try clear hk); (try clear hi); have hcz70_0 := bc3_0 BK1009; have hcz70_1 := bc3_1 BK1009; have hcz70_2 := bc3_2 BK1009; have hfz70_0 := bf_ BK1009 0; have hfz70_1 := bf_ BK1009 1; have hfz70_2 := bf_ BK1009 2; have hcz71_0 := bc5_0 BK1001; have hcz71_1 := bc5_1 BK1001; have hcz71_2 := bc5_2 BK1001; have hcz71_3 := bc5_3 BK1001; have hcz71_4 := bc5_4 BK1001; have hfz71_0 := bf_ BK1001 0; have hfz71_1 := bf_ BK1001 1; have hfz71_2 := bf_ BK1001 2; have hfz71_3 := bf_ BK1001 3; have hfz71_4 := bf_ BK1001 4))
                repeat (go_quiet (first | (go_at_call 54; (with_reducible refine (impl_GoodLabels.calls k3 _ _ ((rd_T87 l0_4 x82_3).f0) true _ ?side1 ?side2 A53.out).mono ?_); (case side1 => exact Kd.C_below HR1008_0.out bg_); (case side2 => exact HC1008_0.out); rintro e w69 ⟨rfl, hb⟩; replace BK1001 := am_ (blk_below (g := gb1001) (o := .cells #[.int .i64 a0_0, .int .i64 a0_1, .int .i64 a0_2, .slice A0_3 l0_3.length c0_3, .slice (some ad1008) l0_4.length c0_4] 31 (0, 0)) (by (with_reducible repeat (first | refine blk_drewN ?_ _ | refine blk_drew ?_ | refine blk_alloc ?_ _)); refine blk_far ?_ NB1001_1009.out _; (with_reducible repeat (first | refine blk_drewN ?_ _ | refine blk_drew ?_ | refine blk_alloc ?_ _)); refine blk_far ?_ NB1001_1009.out _; (with_reducible repeat (first | refine blk_drewN ?_ _ | refine blk_drew ?_ | refine blk_alloc ?_ _)); refine blk_far ?_ NB1001_1009.out _; (with_reducible repeat (first | refine blk_drewN ?_ _ | refine blk_drew ?_ | refine blk_alloc ?_ _)); exact BK1001.out) hb); replace BK1009 := am_ (blk_below (g := gb1009) (o := .cells #[.slice A1008_0 ((rd_T87 l0_4 x82_3).f0).length c1008_0, .int .i64 ((rd_T87 l0_4 x82_3).f1), .int .i64 ((rd_T87 l0_4 x82_3).f2)] 87 (0, 0)) (by (with_reducible repeat (first | refine blk_drewN ?_ _ | refine blk_drew ?_ | refine blk_alloc ?_ _)); refine blk_put (cs := #[.slice A1008_0 ((rd_T87 l0_4 x82_3).f0).length c1008_0, .int .i64 ((rd_T87 l0_4 x82_3).f1), .int .i64 0]) ?_ 2 _ rfl; (with_reducible repeat (first | refine blk_drewN ?_ _ | refine blk_drew ?_ | refine blk_alloc ?_ _)); refine blk_put (cs := #[.slice A1008_0 ((rd_T87 l0_4 x82_3).f0).length c1008_0, .int .i64 0, .int .i64 0]) ?_ 1 _ rfl; (with_reducible repeat (first | refine blk_drewN ?_ _ | refine blk_drew ?_ | refine blk_alloc ?_ _)); refine blk_put (cs := #[.slice none 0 0, .int .i64 0, .int .i64 0]) ?_ 0 _ rfl; (with_reducible repeat (first | refine blk_drewN ?_ _ | refine blk_drew ?_ | refine blk_alloc ?_ _)); exact BK1009.out) hb); replace HB := am_ (below_step bg_ hb); (try clear hb); (try clear hb2); (try clear hk); (try clear hi); have hcz70_0 := bc3_0 BK1009; have hcz70_1 := bc3_1 BK1009; have hcz70_2 := bc3_2 BK1009; have hfz70_0 := bf_ BK1009 0; have hfz70_1 := bf_ BK1009 1; have hfz70_2 := bf_ BK1009 2; have hcz71_0 := bc5_0 BK1001; have hcz71_1 := bc5_1 BK1001; have hcz71_2 := bc5_2 BK1001; have hcz71_3 := bc5_3 BK1001; have hcz71_4 := bc5_4 BK1001; have hfz71_0 := bf_ BK1001 0; have hfz71_1 := bf_ BK1001 1; have hfz71_2 := bf_ BK1001 2; have hfz71_3 := bf_ BK1001 3; have hfz71_4 := bf_ BK1001 4)); try go_wp2)
                go_meet
                case rel => exact ⟨_, (decide (((rd_T87 l0_4 x82_3).f1) > ((rd_T87 l0_4 x82_3).f2))), rs_, H', ⟨by have := HJ1.out; have := HK2.out; have := HK3.out; first | omega | exact Nat.le_refl _⟩, ⟨vk_ BK1001⟩, ⟨vk_ BK1009⟩, ⟨bg_⟩⟩
             ·replace c54 := Bool.eq_false_iff.mpr c54
              subst c54
              have H1 : (impl_GoodBlock.j3 k3 x82_3 l0_4 (l0_4.length : Int) x82_3 true a0_0 a0_1 a0_2 l0_3 l0_4 ((rd_T87 l0_4 x82_3).f0) ((rd_T87 l0_4 x82_3).f1) ((rd_T87 l0_4 x82_3).f2)) = some r := by rw [if_neg (show ¬ (false = true) by decide)] at H; exact H
              clear H
              have H := H1
              clear H1
              have H' := am_ H
              clear H
              have hnb72 := NB1009_1001.out
              have hnc72 := NB1001_1009.out
              have hcz73_0 := bc3_0 BK1009
              have hcz73_1 := bc3_1 BK1009
              have hcz73_2 := bc3_2 BK1009
              have hfz73_0 := bf_ BK1009 0
              have hfz73_1 := bf_ BK1009 1
              have hfz73_2 := bf_ BK1009 2
              go_wp2_with (first | (go_at_call 54; (with_reducible refine (impl_GoodLabels.calls k3 _ _ ((rd_T87 l0_4 x82_3).f0) false _ ?side1 ?side2 A53.out).mono ?_); (case side1 => exact Kd.C_below HR1008_0.out bg_); (case side2 => exact HC1008_0.out); rintro e w74 ⟨rfl, hb⟩; replace BK1001 := am_ (blk_below (g := gb1001) (o := .cells #[.int .i64 a0_0, .int .i64 a0_1, .int .i64 a0_2, .slice A0_3 l0_3.length c0_3, .slice (some ad1008) l0_4.length c0_4] 31 (0, 0)) (by (with_reducible repeat (first | refine blk_drewN ?_ _ | refine blk_drew ?_ | refine blk_alloc ?_ _)); refine blk_far ?_ NB1001_1009.out _; (with_reducible repeat (first | refine blk_drewN ?_ _ | refine blk_drew ?_ | refine blk_alloc ?_ _)); refine blk_far ?_ NB1001_1009.out _; (with_reducible repeat (first | refine blk_drewN ?_ _ | refine blk_drew ?_ | refine blk_alloc ?_ _)); refine blk_far ?_ NB1001_1009.out _; (with_reducible repeat (first | refine blk_drewN ?_ _ | refine blk_drew ?_ | refine blk_alloc ?_ _)); exact BK1001.out) hb); replace BK1009 := am_ (blk_below (g := gb1009) (o := .cells #[.slice A1008_0 ((rd_T87 l0_4 x82_3).f0).length c1008_0, .int .i64 ((rd_T87 l0_4 x82_3).f1), .int .i64 ((rd_T87 l0_4 x82_3).f2)] 87 (0, 0)) (by (with_reducible repeat (first | refine blk_drewN ?_ _ | refine blk_drew ?_ | refine blk_alloc ?_ _)); refine blk_put (cs := #[.slice A1008_0 ((rd_T87 l0_4 x82_3).f0).length c1008_0, .int .i64 ((rd_T87 l0_4 x82_3).f1), .int .i64 0]) ?_ 2 _ rfl; (with_reducible repeat (first | refine blk_drewN ?_ _ | refine blk_drew ?_ | refine blk_alloc ?_ _)); refine blk_put (cs := #[.slice A1008_0 ((rd_T87 l0_4 x82_3).f0).length c1008_0, .int .i64 0, .int .i64 0]) ?_ 1 _ rfl; (with_reducible repeat (first | refine blk_drewN ?_ _ | refine blk_drew ?_ | refine blk_alloc ?_ _)); refine blk_put (cs := #[.slice none 0 0, .int .i64 0, .int .i64 0]) ?_ 0 _ rfl; (with_reducible repeat (first | refine blk_drewN ?_ _ | refine blk_drew ?_ | refine blk_alloc ?_ _)); exact BK1009.out) hb); replace HB := am_ (below_step bg_ hb); (try clear hb); (try clear hb2); (try clear hk); (try clear hi)))
              repeat (go_quiet (first | (go_at_call 54; (with_reducible refine (impl_GoodLabels.calls k3 _ _ ((rd_T87 l0_4 x82_3).f0) false _ ?side1 ?side2 A53.out).mono ?_); (case side1 => exact Kd.C_below HR1008_0.out bg_); (case side2 => exact HC1008_0.out); rintro e w74 ⟨rfl, hb⟩; replace BK1001 := am_ (blk_below (g := gb1001) (o := .cells #[.int .i64 a0_0, .int .i64 a0_1, .int .i64 a0_2, .slice A0_3 l0_3.length c0_3, .slice (some ad1008) l0_4.length c0_4] 31 (0, 0)) (by (with_reducible repeat (first | refine blk_drewN ?_ _ | refine blk_drew ?_ | refine blk_alloc ?_ _)); refine blk_far ?_ NB1001_1009.out _; (with_reducible repeat (first | refine blk_drewN ?_ _ | refine blk_drew ?_ | refine blk_alloc ?_ _)); refine blk_far ?_ NB1001_1009.out _; (with_reducible repeat (first | refine blk_drewN ?_ _ | refine blk_drew ?_ | refine blk_alloc ?_ _)); refine blk_far ?_ NB1001_1009.out _; (with_reducible repeat (first | refine blk_drewN ?_ _ | refine blk_drew ?_ | refine blk_alloc ?_ _)); exact BK1001.out) hb); replace BK1009 := am_ (blk_below (g := gb1009) (o := .cells #[.slice A1008_0 ((rd_T87 l0_4 x82_3).f0).length c1008_0, .int .i64 ((rd_T87 l0_4 x82_3).f1), .int .i64 ((rd_T87 l0_4 x82_3).f2)] 87 (0, 0)) (by (with_reducible repeat (first | refine blk_drewN ?_ _ | refine blk_drew ?_ | refine blk_alloc ?_ _)); refine blk_put (cs := #[.slice A1008_0 ((rd_T87 l0_4 x82_3).f0).length c1008_0, .int .i64 ((rd_T87 l0_4 x82_3).f1), .int .i64 0]) ?_ 2 _ rfl; (with_reducible repeat (first | refine blk_drewN ?_ _ | refine blk_drew ?_ | refine blk_alloc ?_ _)); refine blk_put (cs := #[.slice A1008_0 ((rd_T87 l0_4 x82_3).f0).length c1008_0, .int .i64 0, .int .i64 0]) ?_ 1 _ rfl; (with_reducible repeat (first | refine blk_drewN ?_ _ | refine blk_drew ?_ | refine blk_alloc ?_ _)); refine blk_put (cs := #[.slice none 0 0, .int .i64 0, .int .i64 0]) ?_ 0 _ rfl; (with_reducible repeat (first | refine blk_drewN ?_ _ | refine blk_drew ?_ | refine blk_alloc ?_ _)); exact BK1009.out) hb); replace HB := am_ (below_step bg_ hb); (try clear hb); (try clear hb2); (try clear hk); (try clear hi))); try go_wp2)
              go_meet
              case rel => exact ⟨_, (true), rs_, H', ⟨by have := HJ1.out; have := HK2.out; have := HK3.out; first | omega | exact Nat.le_refl _⟩, ⟨vk_ BK1001⟩, ⟨vk_ BK1009⟩, ⟨bg_⟩⟩
            case rest =>
             clear HC49
             try clear c1
             try clear p1
             try clear q1
             try clear hx1
             try clear qi1
             try clear c2
             try clear p2
             try clear c3
             try clear c4
             try clear c5
             try clear c6
             try clear c6b0
             try clear p6
             try clear c7
             try clear c8
             try clear c8b0
             try clear c10
             try clear c10b0
             try clear p10
             try clear q10
             try clear hx10
             try clear qi10
             try clear c11
             try clear c12
             try clear c12b0
             try clear c15
             try clear c22
             try clear c24
             try clear c24b0
             try clear c25
             try clear c25b0
             try clear c26
             try clear c26b0
             try clear c27
             try clear c27b0
             try clear c27b1
             try clear c28
             try clear c28b0
             try clear c30
             try clear c34
             try clear c34b0
             try clear c35
             try clear c35b0
             try clear c36
             try clear c36b0
             try clear c38
             try clear c42
             try clear c46
             try clear c46b0
             try clear c47
             try clear c47b0
             try clear c48
             try clear c48b0
             try clear c51
             try clear c54
             try clear c55
             try clear c55b0
             try clear c56
             try clear c61
             try clear c61b0
             try clear c62
             try clear p64
             try clear c67
             try clear c72
             try clear hcz11_0
             try clear hcz11_1
             try clear hcz11_2
             try clear hcz11_3
             try clear hcz11_4
             try clear hcz13_0
             try clear hcz13_1
             try clear hcz13_2
             try clear hcz13_3
             try clear hcz13_4
             try clear hcz16_0
             try clear hcz16_1
             try clear hcz16_2
             try clear hcz16_3
             try clear hcz16_4
             try clear hcz18_0
             try clear hcz18_1
             try clear hcz18_2
             try clear hcz18_3
             try clear hcz18_4
             try clear hcz19_0
             try clear hcz19_1
             try clear hcz19_2
             try clear hcz19_3
             try clear hcz19_4
             try clear hcz21_0
             try clear hcz21_1
             try clear hcz21_2
             try clear hcz21_3
             try clear hcz21_4
             try clear hcz23_0
             try clear hcz23_1
             try clear hcz23_2
             try clear hcz23_3
             try clear hcz23_4
             try clear hcz31_0
             try clear hcz31_1
             try clear hcz32_0
             try clear hcz32_1
             try clear hcz32_2
             try clear hcz32_3
             try clear hcz32_4
             try clear hcz39_0
             try clear hcz39_1
             try clear hcz40_0
             try clear hcz40_1
             try clear hcz40_2
             try clear hcz40_3
             try clear hcz40_4
             try clear hcz43_0
             try clear hcz43_1
             try clear hcz44_0
             try clear hcz44_1
             try clear hcz44_2
             try clear hcz44_3
             try clear hcz44_4
             try clear hcz45_0
             try clear hcz45_1
             try clear hcz45_2
             try clear hcz45_3
             try clear hcz45_4
             try clear hcz52_0
             try clear hcz52_1
             try clear hcz52_2
             try clear hcz57_0
             try clear hcz57_1
             try clear hcz57_2
             try clear hcz59_0
             try clear hcz59_1
             try clear hcz59_2
             try clear hcz60_0
             try clear hcz60_1
             try clear hcz60_2
             try clear hcz60_3
             try clear hcz60_4
             try clear hcz63_0
             try clear hcz63_1
             try clear hcz63_2
             try clear hcz65_0
             try clear hcz65_1
             try clear hcz65_2
             try clear hcz66_0
             try clear hcz66_1
             try clear hcz66_2
             try clear hcz66_3
             try clear hcz66_4
             try clear hcz68_0
             try clear hcz68_1
             try clear hcz68_2
             try clear hcz70_0
             try clear hcz70_1
             try clear hcz70_2
             try clear hcz71_0
             try clear hcz71_1
             try clear hcz71_2
             try clear hcz71_3
             try clear hcz71_4
             try clear hcz73_0
             try clear hcz73_1
             try clear hcz73_2
             try clear hcz7_0
             try clear hcz7_1
             try clear hcz7_2
             try clear hcz7_3
             try clear hcz7_4
             try clear hcz9_0
             try clear hcz9_1
             try clear hcz9_2
             try clear hcz9_3
             try clear hcz9_4
             try clear hfz11_0
             try clear hfz11_1
             try clear hfz11_2
             try clear hfz11_3
             try clear hfz11_4
             try clear hfz13_0
             try clear hfz13_1
             try clear hfz13_2
             try clear hfz13_3
             try clear hfz13_4
             try clear hfz16_0
             try clear hfz16_1
             try clear hfz16_2
             try clear hfz16_3
             try clear hfz16_4
             try clear hfz18_0
             try clear hfz18_1
             try clear hfz18_2
             try clear hfz18_3
             try clear hfz18_4
             try clear hfz19_0
             try clear hfz19_1
             try clear hfz19_2
             try clear hfz19_3
             try clear hfz19_4
             try clear hfz21_0
             try clear hfz21_1
             try clear hfz21_2
             try clear hfz21_3
             try clear hfz21_4
             try clear hfz23_0
             try clear hfz23_1
             try clear hfz23_2
             try clear hfz23_3
             try clear hfz23_4
             try clear hfz31_0
             try clear hfz31_1
             try clear hfz32_0
             try clear hfz32_1
             try clear hfz32_2
             try clear hfz32_3
             try clear hfz32_4
             try clear hfz39_0
             try clear hfz39_1
             try clear hfz40_0
             try clear hfz40_1
             try clear hfz40_2
             try clear hfz40_3
             try clear hfz40_4
             try clear hfz43_0
             try clear hfz43_1
             try clear hfz44_0
             try clear hfz44_1
             try clear hfz44_2
             try clear hfz44_3
             try clear hfz44_4
             try clear hfz45_0
             try clear hfz45_1
             try clear hfz45_2
             try clear hfz45_3
             try clear hfz45_4
             try clear hfz52_0
             try clear hfz52_1
             try clear hfz52_2
             try clear hfz57_0
             try clear hfz57_1
             try clear hfz57_2
             try clear hfz59_0
             try clear hfz59_1
             try clear hfz59_2
             try clear hfz60_0
             try clear hfz60_1
             try clear hfz60_2
             try clear hfz60_3
             try clear hfz60_4
             try clear hfz63_0
             try clear hfz63_1
             try clear hfz63_2
             try clear hfz65_0
             try clear hfz65_1
             try clear hfz65_2
             try clear hfz66_0
             try clear hfz66_1
             try clear hfz66_2
             try clear hfz66_3
             try clear hfz66_4
             try clear hfz68_0
             try clear hfz68_1
             try clear hfz68_2
             try clear hfz70_0
             try clear hfz70_1
             try clear hfz70_2
             try clear hfz71_0
             try clear hfz71_1
             try clear hfz71_2
             try clear hfz71_3
             try clear hfz71_4
             try clear hfz73_0
             try clear hfz73_1
             try clear hfz73_2
             try clear hfz7_0
             try clear hfz7_1
             try clear hfz7_2
             try clear hfz7_3
             try clear hfz7_4
             try clear hfz9_0
             try clear hfz9_1
             try clear hfz9_2
             try clear hfz9_3
             try clear hfz9_4
             try clear hx1004_0
             try clear hx1004_1
             try clear hx1006_0
             try clear hx1006_1
             try clear hx1007_0
             try clear hx1007_1
             try clear hx1008_0
             try clear hx1008_1
             try clear hx1008_2
             try clear p1
             try clear p10
             try clear p1004
             try clear p1006
             try clear p1007
             try clear p1008
             try clear p2
             try clear p6
             try clear q1
             try clear q10
             try clear q1004
             try clear q1006
             try clear q1007
             try clear q1008
             obtain ⟨kq, x111_48, rfl, HA, HJ48, BK1001, BK1009, HB⟩ := hcut
             cases kq with
             | zero => exact absurd HA.out (by simp [impl_GoodBlock.j3])
             | succ kj48 =>
              have H := HA.out
              clear HA
              simp only [impl_GoodBlock.j3] at H
              by_cases c75 : x111_48 = true
              ·subst c75
               have H1 : (some false) = some r := by rw [if_pos rfl] at H; exact H
               clear H
               have H := H1
               clear H1
               obtain rfl := Option.some.inj H
               go_wp2
               repeat (go_quiet (fail); try go_wp2)
               go_ret
               exact ⟨rf_, bg_⟩
              ·replace c75 := Bool.eq_false_iff.mpr c75
               subst c75
               have H1 : ((impl_findSeries.f kj48 l0_3 ((rd_T87 l0_4 x82_3).f0)).bind fun bt1011 => (if bt1011.2 = true then (if x82_3 = 0 then (impl_GoodBlock.l1 kj48 l0_4 (l0_4.length : Int) (wrap64 (x82_3 + 1)) a0_0 a0_1 a0_2 l0_3 l0_4) else (if 0 ≤ (wrap64 (x82_3 - 1)) then (if (wrap64 (x82_3 - 1)) < (l0_4.length : Int) then ((impl_compare.f kj48 ((rd_T87 l0_4 (wrap64 (x82_3 - 1))).f0) ((rd_T87 l0_4 x82_3).f0)).bind fun t1015 => (if t1015 > 0 then (some false) else (if t1015 = 0 then (if ((rd_T87 l0_4 x82_3).f1) ≤ (wrap64 (((rd_T87 l0_4 (wrap64 (x82_3 - 1))).f2) + 1)) then (some false) else (impl_GoodBlock.l1 kj48 l0_4 (l0_4.length : Int) (wrap64 (x82_3 + 1)) a0_0 a0_1 a0_2 l0_3 l0_4)) else (impl_GoodBlock.l1 kj48 l0_4 (l0_4.length : Int) (wrap64 (x82_3 + 1)) a0_0 a0_1 a0_2 l0_3 l0_4)))) else (none)) else (none))) else (some false))) = some r := by rw [if_neg (show ¬ (false = true) by decide)] at H; exact H
               clear H
               have H := H1
               clear H1
               replace H := Option.bind_eq_some_iff.mp H
               obtain ⟨⟨t1011, t1012⟩, A760, H⟩ := H
               replace H : (if t1012 = true then (if x82_3 = 0 then (impl_GoodBlock.l1 kj48 l0_4 (l0_4.length : Int) (wrap64 (x82_3 + 1)) a0_0 a0_1 a0_2 l0_3 l0_4) else (if 0 ≤ (wrap64 (x82_3 - 1)) then (if (wrap64 (x82_3 - 1)) < (l0_4.length : Int) then ((impl_compare.f kj48 ((rd_T87 l0_4 (wrap64 (x82_3 - 1))).f0) ((rd_T87 l0_4 x82_3).f0)).bind fun t1015 => (if t1015 > 0 then (some false) else (if t1015 = 0 then (if ((rd_T87 l0_4 x82_3).f1) ≤ (wrap64 (((rd_T87 l0_4 (wrap64 (x82_3 - 1))).f2) + 1)) then (some false) else (impl_GoodBlock.l1 kj48 l0_4 (l0_4.length : Int) (wrap64 (x82_3 + 1)) a0_0 a0_1 a0_2 l0_3 l0_4)) else (impl_GoodBlock.l1 kj48 l0_4 (l0_4.length : Int) (wrap64 (x82_3 + 1)) a0_0 a0_1 a0_2 l0_3 l0_4)))) else (none)) else (none))) else (some false)) = some r := H
               have A76 := am_ A760
               clear A760
               by_cases c77 : t1012 = true
               ·subst c77
                have H1 : (if x82_3 = 0 then (impl_GoodBlock.l1 kj48 l0_4 (l0_4.length : Int) (wrap64 (x82_3 + 1)) a0_0 a0_1 a0_2 l0_3 l0_4) else (if 0 ≤ (wrap64 (x82_3 - 1)) then (if (wrap64 (x82_3 - 1)) < (l0_4.length : Int) then ((impl_compare.f kj48 ((rd_T87 l0_4 (wrap64 (x82_3 - 1))).f0) ((rd_T87 l0_4 x82_3).f0)).bind fun t1015 => (if t1015 > 0 then (some false) else (if t1015 = 0 then (if ((rd_T87 l0_4 x82_3).f1) ≤ (wrap64 (((rd_T87 l0_4 (wrap64 (x82_3 - 1))).f2) + 1)) then (some false) else (impl_GoodBlock.l1 kj48 l0_4 (l0_4.length : Int) (wrap64 (x82_3 + 1)) a0_0 a0_1 a0_2 l0_3 l0_4)) else (impl_GoodBlock.l1 kj48 l0_4 (l0_4.length : Int) (wrap64 (x82_3 + 1)) a0_0 a0_1 a0_2 l0_3 l0_4)))) else (none)) else (none))) = some r := by rw [if_pos rfl] at H; exact H
                clear H
                have H := H1
                clear H1
                by_cases c78 : x82_3 = 0
                ·rw [if_pos c78] at H
                 have c78b0 : (x82_3 == 0) = true := beq_iff_eq.mpr c78
                 have c78b1 : (x82_3 != 0) = false := bne_eq_false_iff_eq.mpr c78
                 clear c78
                 have H' := am_ H
                 clear H
                 have hnb79 := NB1001_1009.out
                 have hnc79 := NB1009_1001.out
                 have hcz80_0 := bc5_0 BK1001
                 have hcz80_1 := bc5_1 BK1001
                 have hcz80_2 := bc5_2 BK1001
                 have hcz80_3 := bc5_3 BK1001
                 have hcz80_4 := bc5_4 BK1001
                 have hfz80_0 := bf_ BK1001 0
                 have hfz80_1 := bf_ BK1001 1
                 have hfz80_2 := bf_ BK1001 2
                 have hfz80_3 := bf_ BK1001 3
                 have hfz80_4 := bf_ BK1001 4
                 have hcz81_0 := bc3_0 BK1009
                 have hcz81_1 := bc3_1 BK1009
                 have hcz81_2 := bc3_2 BK1009
                 have hfz81_0 := bf_ BK1009 0
                 have hfz81_1 := bf_ BK1009 1
                 have hfz81_2 := bf_ BK1009 2
                 go_wp2_with (first | (go_at_call 55; (with_reducible refine (impl_findSeries.calls kj48 _ _ l0_3 _ _ ((rd_T87 l0_4 x82_3).f0) t1011 true _ ?side1 ?side2 ?side3 ?side4 A76.out).mono ?_); (case side1 => exact cc_ (Kd.C_below HR0_3.out HB.out)); (case side2 => exact HC0_3.out); (case side3 => exact cc_ (Kd.C_below HR1008_0.out HB.out)); (case side4 => exact HC1008_0.out); rintro e w82 ⟨rfl, hb⟩; replace BK1001 := am_ (blk_below (g := gb1001) (vk_ BK1001) hb); replace BK1009 := am_ (blk_below (g := gb1009) (vk_ BK1009) hb); replace HB := am_ (below_step bg_ hb); (try clear hb); (try clear hb2); (try clear hk); (try clear hi)))
                 repeat (go_quiet (first | (go_at_call 55; (with_reducible refine (impl_findSeries.calls kj48 _ _ l0_3 _ _ ((rd_T87 l0_4 x82_3).f0) t1011 true _ ?side1 ?side2 ?side3 ?side4 A76.out).mono ?_); (case side1 => exact cc_ (Kd.C_below HR0_3.out HB.out)); (case side2 => exact HC0_3.out); (case side3 => exact cc_ (Kd.C_below HR1008_0.out HB.out)); (case side4 => exact HC1008_0.out); rintro e w82 ⟨rfl, hb⟩; replace BK1001 := am_ (blk_below (g := gb1001) (vk_ BK1001) hb); replace BK1009 := am_ (blk_below (g := gb1009) (vk_ BK1009) hb); replace HB := am_ (below_step bg_ hb); (try clear hb); (try clear hb2); (try clear hk); (try clear hi))); try go_wp2)
                 go_roundg kj48
                 case measure => have := HJ1.out; have := HK2.out; have := HK3.out; have := HJ48.out; omega
                 case rel => exact ⟨(wrap64 (x82_3 + 1)), rs_, H', ⟨by have := HJ1.out; have := HK2.out; have := HK3.out; have := HJ48.out; omega⟩, ⟨vk_ BK1001⟩, ⟨bg_⟩⟩
                ·rw [if_neg c78] at H
                 have c78b0 : (x82_3 == 0) = false := beq_eq_false_iff_ne.mpr c78
                 have c78b1 : (x82_3 != 0) = true := bne_iff_ne.mpr c78
                 obtain ⟨ji83, hji83⟩ : ∃ j_ : Int, (wrap64 (x82_3 - 1)) = j_ := ⟨_, rfl⟩
                 replace H : (if 0 ≤ (ji83) then (if (ji83) < (l0_4.length : Int) then ((impl_compare.f kj48 ((rd_T87 l0_4 (ji83)).f0) ((rd_T87 l0_4 x82_3).f0)).bind fun t1015 => (if t1015 > 0 then (some false) else (if t1015 = 0 then (if ((rd_T87 l0_4 x82_3).f1) ≤ (wrap64 (((rd_T87 l0_4 (ji83)).f2) + 1)) then (some false) else (impl_GoodBlock.l1 kj48 l0_4 (l0_4.length : Int) (wrap64 (x82_3 + 1)) a0_0 a0_1 a0_2 l0_3 l0_4)) else (impl_GoodBlock.l1 kj48 l0_4 (l0_4.length : Int) (wrap64 (x82_3 + 1)) a0_0 a0_1 a0_2 l0_3 l0_4)))) else (none)) else (none)) = some r := by first | (rw [hji83] at H; exact H) | (simp only [hji83] at H ⊢; exact H)
                 (try rw [hji83] at A76)
                 have hji83w : (IntKind.i64.wrap (x82_3 - 1)) = ji83 := (i64_w _).trans hji83
                 by_cases c84 : 0 ≤ (ji83)
                 ·rw [if_pos c84] at H
                  have c84b0 : decide (0 ≤ (ji83)) = true := decide_eq_true c84
                  clear c84
                  by_cases c85 : (ji83) < (l0_4.length : Int)
                  ·rw [if_pos c85] at H
                   have c85b0 : decide ((ji83) < (l0_4.length : Int)) = true := decide_eq_true c85
                   clear c85
                   replace H := Option.bind_eq_some_iff.mp H
                   obtain ⟨t1015, A860, H⟩ := H
                   replace H : (if t1015 > 0 then (some false) else (if t1015 = 0 then (if ((rd_T87 l0_4 x82_3).f1) ≤ (wrap64 (((rd_T87 l0_4 (ji83)).f2) + 1)) then (some false) else (impl_GoodBlock.l1 kj48 l0_4 (l0_4.length : Int) (wrap64 (x82_3 + 1)) a0_0 a0_1 a0_2 l0_3 l0_4)) else (impl_GoodBlock.l1 kj48 l0_4 (l0_4.length : Int) (wrap64 (x82_3 + 1)) a0_0 a0_1 a0_2 l0_3 l0_4))) = some r := H
                   have A86 := am_ A860
                   clear A860
                   by_cases c87 : t1015 > 0
                   ·rw [if_pos c87] at H
                    have c87b0 : decide (0 < t1015) = true := decide_eq_true c87
                    clear c87
                    obtain rfl := Option.some.inj H
                    have hnb88 := NB1001_1009.out
                    have hnc88 := NB1009_1001.out
                    have hcz89_0 := bc5_0 BK1001
                    have hcz89_1 := bc5_1 BK1001
                    have hcz89_2 := bc5_2 BK1001
                    have hcz89_3 := bc5_3 BK1001
                    have hcz89_4 := bc5_4 BK1001
                    have hfz89_0 := bf_ BK1001 0
                    have hfz89_1 := bf_ BK1001 1
                    have hfz89_2 := bf_ BK1001 2
                    have hfz89_3 := bf_ BK1001 3
                    have hfz89_4 := bf_ BK1001 4
                    have hcz90_0 := bc3_0 BK1009
                    have hcz90_1 := bc3_1 BK1009
                    have hcz90_2 := bc3_2 BK1009
                    have hfz90_0 := bf_ BK1009 0
                    have hfz90_1 := bf_ BK1009 1
                    have hfz90_2 := bf_ BK1009 2
                    go_wp2_with (first | (go_at_call 55; (with_reducible refine (impl_findSeries.calls kj48 _ _ l0_3 _ _ ((rd_T87 l0_4 x82_3).f0) t1011 true _ ?side1 ?side2 ?side3 ?side4 A76.out).mono ?_); (case side1 => exact cc_ (Kd.C_below HR0_3.out HB.out)); (case side2 => exact HC0_3.out); (case side3 => exact cc_ (Kd.C_below HR1008_0.out HB.out)); (case side4 => exact HC1008_0.out); rintro e w91 ⟨rfl, hb⟩; replace BK1001 := am_ (blk_below (g := gb1001) (vk_ BK1001) hb); replace BK1009 := am_ (blk_below (g := gb1009) (vk_ BK1009) hb); replace HB := am_ (below_step bg_ hb); (try clear hb); (try clear hb2); (try clear hk); (try clear hi); have hcz92_0 := bc5_0 BK1001; have hcz92_1 := bc5_1 BK1001; have hcz92_2 := bc5_2 BK1001; have hcz92_3 := bc5_3 BK1001; have hcz92_4 := bc5_4 BK1001; have hfz92_0 := bf_ BK1001 0; have hfz92_1 := bf_ BK1001 1; have hfz92_2 := bf_ BK1001 2; have hfz92_3 := bf_ BK1001 3; have hfz92_4 := bf_ BK1001 4; have p1013 : 0 ≤ ((ji83) : Int) := od_; have q1013 : (ji83) < (l0_4.length : Int) := od_; obtain ⟨ad1013, A1013_0, c1013_0, e1013, hx1013_0, hx1013_1, hx1013_2, hl1013_0, hi1013_0⟩ := at_T87 HR0_4.out (ji83) p1013 q1013; obtain rfl : ad1008 = ad1013 := (by injection e1013); replace hx1013_0 := kp_ HB hx1013_0; replace hx1013_1 := kp_ HB hx1013_1; replace hx1013_2 := kp_ HB hx1013_2; have HR1013_0 := am_ hi1013_0; have HC1013_0 := am_ hl1013_0; clear hi1013_0 hl1013_0; replace p1013 := eq_true p1013; replace q1013 := eq_true q1013) | ((with_reducible refine gate_dst (N := 9) rfl ?_); (try (refine gate_guard (by rfl) ?_; dsimp only)); refine bx_ 9 #[.slice none 0 0, .int .i64 0, .int .i64 0] 87 ?_; intro gb1014 hg w93 hbox hb; have BK1014 := am_ (hbox); have GW1014 := am_ (gg_ hg : w.heap.size ≤ gb1014); have NB1001_1014 := am_ ((by rw [hg]; exact Nat.ne_of_lt (blk_lt (g := gb1001) (o := .cells #[.int .i64 a0_0, .int .i64 a0_1, .int .i64 a0_2, .slice A0_3 l0_3.length c0_3, .slice (some ad1008) l0_4.length c0_4] 31 (0, 0)) (vk_ BK1001)) : gb1001 ≠ gb1014)); have NB1014_1001 := am_ ((by rw [hg]; exact Nat.ne_of_gt (blk_lt (g := gb1001) (o := .cells #[.int .i64 a0_0, .int .i64 a0_1, .int .i64 a0_2, .slice A0_3 l0_3.length c0_3, .slice (some ad1008) l0_4.length c0_4] 31 (0, 0)) (vk_ BK1001)) : gb1014 ≠ gb1001)); have NB1009_1014 := am_ ((by rw [hg]; exact Nat.ne_of_lt (blk_lt (g := gb1009) (o := .cells #[.slice A1008_0 ((rd_T87 l0_4 x82_3).f0).length c1008_0, .int .i64 ((rd_T87 l0_4 x82_3).f1), .int .i64 ((rd_T87 l0_4 x82_3).f2)] 87 (0, 0)) (vk_ BK1009)) : gb1009 ≠ gb1014)); have NB1014_1009 := am_ ((by rw [hg]; exact Nat.ne_of_gt (blk_lt (g := gb1009) (o := .cells #[.slice A1008_0 ((rd_T87 l0_4 x82_3).f0).length c1008_0, .int .i64 ((rd_T87 l0_4 x82_3).f1), .int .i64 ((rd_T87 l0_4 x82_3).f2)] 87 (0, 0)) (vk_ BK1009)) : gb1014 ≠ gb1009)); replace BK1001 := am_ (blk_below (g := gb1001) (vk_ BK1001) hb); replace BK1009 := am_ (blk_below (g := gb1009) (vk_ BK1009) hb); replace HB := am_ (below_step bg_ hb); have GE1014 := GW1014; clear hb hbox hg; have hnb94 := NB1014_1001.out; have hnc94 := NB1001_1014.out; have hnb95 := NB1014_1009.out; have hnc95 := NB1009_1014.out; have hcz96_0 := bc3_0 BK1014; have hcz96_1 := bc3_1 BK1014; have hcz96_2 := bc3_2 BK1014; have hfz96_0 := bf_ BK1014 0; have hfz96_1 := bf_ BK1014 1; have hfz96_2 := bf_ BK1014 2; have hcz97_0 := bc3_0 BK1009; have hcz97_1 := bc3_1 BK1009; have hcz97_2 := bc3_2 BK1009; have hfz97_0 := bf_ BK1009 0; have hfz97_1 := bf_ BK1009 1; have hfz97_2 := bf_ BK1009 2) | (go_at_call 56; (with_reducible refine (impl_compare.calls kj48 _ _ ((rd_T87 l0_4 (ji83)).f0) _ _ ((rd_T87 l0_4 x82_3).f0) t1015 _ ?side1 ?side2 ?side3 ?side4 A86.out).mono ?_); (case side1 => exact Kd.C_below HR1013_0.out bg_); (case side2 => exact HC1013_0.out); (case side3 => exact Kd.C_below HR1008_0.out bg_); (case side4 => exact HC1008_0.out); rintro e w98 ⟨rfl, hb⟩; replace BK1001 := am_ (blk_below (g := gb1001) (o := .cells #[.int .i64 a0_0, .int .i64 a0_1, .int .i64 a0_2, .slice A0_3 l0_3.length c0_3, .slice (some ad1008) l0_4.length c0_4] 31 (0, 0)) (by (with_reducible repeat (first | refine blk_drewN ?_ _ | refine blk_drew ?_ | refine blk_alloc ?_ _)); refine blk_far ?_ NB1001_1014.out _; (with_reducible repeat (first | refine blk_drewN ?_ _ | refine blk_drew ?_ | refine blk_alloc ?_ _)); refine blk_far ?_ NB1001_1014.out _; (with_reducible repeat (first | refine blk_drewN ?_ _ | refine blk_drew ?_ | refine blk_alloc ?_ _)); refine blk_far ?_ NB1001_1014.out _; (with_reducible repeat (first | refine blk_drewN ?_ _ | refine blk_drew ?_ | refine blk_alloc ?_ _)); exact BK1001.out) hb); replace BK1009 := am_ (blk_below (g := gb1009) (o := .cells #[.slice A1008_0 ((rd_T87 l0_4 x82_3).f0).length c1008_0, .int .i64 ((rd_T87 l0_4 x82_3).f1), .int .i64 ((rd_T87 l0_4 x82_3).f2)] 87 (0, 0)) (by (with_reducible repeat (first | refine blk_drewN ?_ _ | refine blk_drew ?_ | refine blk_alloc ?_ _)); refine blk_far ?_ NB1009_1014.out _; (with_reducible repeat (first | refine blk_drewN ?_ _ | refine blk_drew ?_ | refine blk_alloc ?_ _)); refine blk_far ?_ NB1009_1014.out _; (with_reducible repeat (first | refine blk_drewN ?_ _ | refine blk_drew ?_ | refine blk_alloc ?_ _)); refine blk_far ?_ NB1009_1014.out _; (with_reducible repeat (first | refine blk_drewN ?_ _ | refine blk_drew ?_ | refine blk_alloc ?_ _)); exact BK1009.out) hb); replace BK1014 := am_ (blk_below (g := gb1014) (o := .cells #[.slice A1013_0 ((rd_T87 l0_4 (ji83)).f0).length c1013_0, .int .i64 ((rd_T87 l0_4 (ji83)).f1), .int .i64 ((rd_T87 l0_4 (ji83)).f2)] 87 (0, 0)) (by (with_reducible repeat (first | refine blk_drewN ?_ _ | refine blk_drew ?_ | refine blk_alloc ?_ _)); refine blk_put (cs := #[.slice A1013_0 ((rd_T87 l0_4 (ji83)).f0).length c1013_0, .int .i64 ((rd_T87 l0_4 (ji83)).f1), .int .i64 0]) ?_ 2 _ rfl; (with_reducible repeat (first | refine blk_drewN ?_ _ | refine blk_drew ?_ | refine blk_alloc ?_ _)); refine blk_put (cs := #[.slice A1013_0 ((rd_T87 l0_4 (ji83)).f0).length c1013_0, .int .i64 0, .int .i64 0]) ?_ 1 _ rfl; (with_reducible repeat (first | refine blk_drewN ?_ _ | refine blk_drew ?_ | refine blk_alloc ?_ _)); refine blk_put (cs := #[.slice none 0 0, .int .i64 0, .int .i64 0]) ?_ 0 _ rfl; (with_reducible repeat (first | refine blk_drewN ?_ _ | refine blk_drew ?_ | refine blk_alloc ?_ _)); exact BK1014.out) hb); replace HB := am_ (below_step bg_ hb); (try clear hb); (try clear hb2); (try clear hk); (try clear hi)))
                    repeat (go_quiet (first | (go_at_call 55; (with_reducible refine (impl_findSeries.calls kj48 _ _ l0_3 _ _ ((rd_T87 l0_4 x82_3).f0) t1011 true _ ?side1 ?side2 ?side3 ?side4 A76.out).mono ?_); (case side1 => exact cc_ (Kd.C_below HR0_3.out HB.out)); (case side2 => exact HC0_3.out); (case side3 => exact cc_ (Kd.C_below HR1008_0.out HB.out)); (case side4 => exact HC1008_0.out); rintro e w91 ⟨rfl, hb⟩; replace BK1001 := am_ (blk_below (g := gb1001) (vk_ BK1001) hb); replace BK1009 := am_ (blk_below (g := gb1009) (vk_ BK1009) hb); replace HB := am_ (below_step bg_ hb); (try clear hb); (try clear hb2); (try clear hk); (try clear hi); have hcz92_0 := bc5_0 BK1001; have hcz92_1 := bc5_1 BK1001; have hcz92_2 := bc5_2 BK1001; have hcz92_3 := bc5_3 BK1001; have hcz92_4 := bc5_4 BK1001; have hfz92_0 := bf_ BK1001 0; have hfz92_1 := bf_ BK1001 1; have hfz92_2 := bf_ BK1001 2; have hfz92_3 := bf_ BK1001 3; have hfz92_4 := bf_ BK1001 4; have p1013 : 0 ≤ ((ji83) : Int) := od_; have q1013 : (ji83) < (l0_4.length : Int) := od_; obtain ⟨ad1013, A1013_0, c1013_0, e1013, hx1013_0, hx1013_1, hx1013_2, hl1013_0, hi1013_0⟩ := at_T87 HR0_4.out (ji83) p1013 q1013; obtain rfl : ad1008 = ad1013 := (by injection e1013); replace hx1013_0 := kp_ HB hx1013_0; replace hx1013_1 := kp_ HB hx1013_1; replace hx1013_2 := kp_ HB hx1013_2; have HR1013_0 := am_ hi1013_0; have HC1013_0 := am_ hl1013_0; clear hi1013_0 hl1013_0; replace p1013 := eq_true p1013; replace q1013 := eq_true q1013) | ((with_reducible refine gate_dst (N := 9) rfl ?_); (try (refine gate_guard (by rfl) ?_; dsimp only)); refine bx_ 9 #[.slice none 0 0, .int .i64 0, .int .i64 0] 87 ?_; intro gb1014 hg w93 hbox hb; have BK1014 := am_ (hbox); have GW1014 := am_ (gg_ hg : w.heap.size ≤ gb1014); have NB1001_1014 := am_ ((by rw [hg]; exact Nat.ne_of_lt (blk_lt (g := gb1001) (o := .cells #[.int .i64 a0_0, .int .i64 a0_1, .int .i64 a0_2, .slice A0_3 l0_3.length c0_3, .slice (some ad1008) l0_4.length c0_4] 31 (0, 0)) (vk_ BK1001)) : gb1001 ≠ gb1014)); have NB1014_1001 := am_ ((by rw [hg]; exact Nat.ne_of_gt (blk_lt (g := gb1001) (o := .cells #[.int .i64 a0_0, .int .i64 a0_1, .int .i64 a0_2, .slice A0_3 l0_3.length c0_3, .slice (some ad1008) l0_4.length c0_4] 31 (0, 0)) (vk_ BK1001)) : gb1014 ≠ gb1001)); have NB1009_1014 := am_ ((by rw [hg]; exact Nat.ne_of_lt (blk_lt (g := gb1009) (o := .cells #[.slice A1008_0 ((rd_T87 l0_4 x82_3).f0).length c1008_0, .int .i64 ((rd_T87 l0_4 x82_3).f1), .int .i64 ((rd_T87 l0_4 x82_3).f2)] 87 (0, 0)) (vk_ BK1009)) : gb1009 ≠ gb1014)); have NB1014_1009 := am_ ((by rw [hg]; exact Nat.ne_of_gt (blk_lt (g := gb1009) (o := .cells #[.slice A1008_0 ((rd_T87 l0_4 x82_3).f0).length c1008_0, .int .i64 ((rd_T87 l0_4 x82_3).f1), .int .i64 ((rd_T87 l0_4 x82_3).f2)] 87 (0, 0)) (vk_ BK1009)) : gb1014 ≠ gb1009)); replace BK1001 := am_ (blk_below (g := gb1001) (vk_ BK1001) hb); replace BK1009 := am_ (blk_below (g := gb1009) (vk_ BK1009) hb); replace HB := am_ (below_step bg_ hb); have GE1014 := GW1014; clear hb hbox hg; have hnb94 := NB1014_1001.out; have hnc94 := NB1001_1014.out; have hnb95 := NB1014_1009.out; have hnc95 := NB1009_1014.out; have hcz96_0 := bc3_0 BK1014; have hcz96_1 := bc3_1 BK1014; have hcz96_2 := bc3_2 BK1014; have hfz96_0 := bf_ BK1014 0; have hfz96_1 := bf_ BK1014 1; have hfz96_2 := bf_ BK1014 2; have hcz97_0 := bc3_0 BK1009; have hcz97_1 := bc3_1 BK1009; have hcz97_2 := bc3_2 BK1009; have hfz97_0 := bf_ BK1009 0; have hfz97_1 := bf_ BK1009 1; have hfz97_2 := bf_ BK1009 2) | (go_at_call 56; (with_reducible refine (impl_compare.calls kj48 _ _ ((rd_T87 l0_4 (ji83)).f0) _ _ ((rd_T87 l0_4 x82_3).f0) t1015 _ ?side1 ?side2 ?side3 ?side4 A86.out).mono ?_); (case side1 => exact Kd.C_below HR1013_0.out bg_); (case side2 => exact HC1013_0.out); (case side3 => exact Kd.C_below HR1008_0.out bg_); (case side4 => exact HC1008_0.out); rintro e w98 ⟨rfl, hb⟩; replace BK1001 := am_ (blk_below (g := gb1001) (o := .cells #[.int .i64 a0_0, .int .i64 a0_1, .int .i64 a0_2, .slice A0_3 l0_3.length c0_3, .slice (some ad1008) l0_4.length c0_4] 31 (0, 0)) (by (with_reducible repeat (first | refine blk_drewN ?_ _ | refine blk_drew ?_ | refine blk_alloc ?_ _)); refine blk_far ?_ NB1001_1014.out _; (with_reducible repeat (first | refine blk_drewN ?_ _ | refine blk_drew ?_ | refine blk_alloc ?_ _)); refine blk_far ?_ NB1001_1014.out _; (with_reducible repeat (first | refine blk_drewN ?_ _ | refine blk_drew ?_ | refine blk_alloc ?_ _)); refine blk_far ?_ NB1001_1014.out _; (with_reducible repeat (first | refine blk_drewN ?_ _ | refine blk_drew ?_ | refine blk_alloc ?_ _)); exact BK1001.out) hb); replace BK1009 := am_ (blk_below (g := gb1009) (o := .cells #[.slice A1008_0 ((rd_T87 l0_4 x82_3).f0).length c1008_0, .int .i64 ((rd_T87 l0_4 x82_3).f1), .int .i64 ((rd_T87 l0_4 x82_3).f2)] 87 (0, 0)) (by (with_reducible repeat (first | refine blk_drewN ?_ _ | refine blk_drew ?_ | refine blk_alloc ?_ _)); refine blk_far ?_ NB1009_1014.out _; (with_reducible repeat (first | refine blk_drewN ?_ _ | refine blk_drew ?_ | refine blk_alloc ?_ _)); refine blk_far ?_ NB1009_1014.out _; (with_reducible repeat (first | refine blk_drewN ?_ _ | refine blk_drew ?_ | refine blk_alloc ?_ _)); refine blk_far ?_ NB1009_1014.out _; (with_reducible repeat (first | refine blk_drewN ?_ _ | refine blk_drew ?_ | refine blk_alloc ?_ _)); exact BK1009.out) hb); replace BK1014 := am_ (blk_below (g := gb1014) (o := .cells #[.slice A1013_0 ((rd_T87 l0_4 (ji83)).f0).length c1013_0, .int .i64 ((rd_T87 l0_4 (ji83)).f1), .int .i64 ((rd_T87 l0_4 (ji83)).f2)] 87 (0, 0)) (by (with_reducible repeat (first | refine blk_drewN ?_ _ | refine blk_drew ?_ | refine blk_alloc ?_ _)); refine blk_put (cs := #[.slice A1013_0 ((rd_T87 l0_4 (ji83)).f0).length c1013_0, .int .i64 ((rd_T87 l0_4 (ji83)).f1), .int .i64 0]) ?_ 2 _ rfl; (with_reducible repeat (first | refine blk_drewN ?_ _ | refine blk_drew ?_ | refine blk_alloc ?_ _)); refine blk_put (cs := #[.slice A1013_0 ((rd_T87 l0_4 (ji83)).f0).length c1013_0, .int .i64 0, .int .i64 0]) ?_ 1 _ rfl; (with_reducible repeat (first | refine blk_drewN ?_ _ | refine blk_drew ?_ | refine blk_alloc ?_ _)); refine blk_put (cs := #[.slice none 0 0, .int .i64 0, .int .i64 0]) ?_ 0 _ rfl; (with_reducible repeat (first | refine blk_drewN ?_ _ | refine blk_drew ?_ | refine blk_alloc ?_ _)); exact BK1014.out) hb); replace HB := am_ (below_step bg_ hb); (try clear hb); (try clear hb2); (try clear hk); (try clear hi))); try go_wp2)
                    go_ret
                    exact ⟨by first | rfl | (simp [errW_none, errW_some] <;> rfl) | (simp only [← hji83]; first | rfl | (simp [errW_none, errW_some] <;> rfl)) | (simp [*, errW_none, errW_some] <;> rfl) | (simp [*, Go.Proofs.Ytknlgignjbghkaa.Gt.nil_bne]; done), bg_⟩
                   ·rw [if_neg c87] at H
                    have c87b0 : decide (0 < t1015) = false := decide_eq_false c87
                    clear c87
                    by_cases c99 : t1015 = 0
                    ·rw [if_pos c99] at H
                     have c99b0 : (t1015 == 0) = true := beq_iff_eq.mpr c99
                     have c99b1 : (t1015 != 0) = false := bne_eq_false_iff_eq.mpr c99
                     clear c99
                     by_cases c100 : ((rd_T87 l0_4 x82_3).f1) ≤ (wrap64 (((rd_T87 l0_4 (ji83)).f2) + 1))
                     ·rw [if_pos c100] at H
                      have c100b0 : decide (((rd_T87 l0_4 x82_3).f1) ≤ (wrap64 (((rd_T87 l0_4 (ji83)).f2) + 1))) = true := decide_eq_true c100
                      clear c100
                      obtain rfl := Option.some.inj H
                      have hnb101 := NB1001_1009.out
                      have hnc101 := NB1009_1001.out
                      have hcz102_0 := bc5_0 BK1001
                      have hcz102_1 := bc5_1 BK1001
                      have hcz102_2 := bc5_2 BK1001
                      have hcz102_3 := bc5_3 BK1001
                      have hcz102_4 := bc5_4 BK1001
                      have hfz102_0 := bf_ BK1001 0
                      have hfz102_1 := bf_ BK1001 1
                      have hfz102_2 := bf_ BK1001 2
                      have hfz102_3 := bf_ BK1001 3
                      have hfz102_4 := bf_ BK1001 4
                      have hcz103_0 := bc3_0 BK1009
                      have hcz103_1 := bc3_1 BK1009
                      have hcz103_2 := bc3_2 BK1009
                      have hfz103_0 := bf_ BK1009 0
                      have hfz103_1 := bf_ BK1009 1
                      have hfz103_2 := bf_ BK1009 2
                      go_wp2_with (first | (go_at_call 55; (with_reducible refine (impl_findSeries.calls kj48 _ _ l0_3 _ _ ((rd_T87 l0_4 x82_3).f0) t1011 true _ ?side1 ?side2 ?side3 ?side4 A76.out).mono ?_); (case side1 => exact cc_ (Kd.C_below HR0_3.out HB.out)); (case side2 => exact HC0_3.out); (case side3 => exact cc_ (Kd.C_below HR1008_0.out HB.out)); (case side4 => exact HC1008_0.out); rintro e w104 ⟨rfl, hb⟩; replace BK1001 := am_ (blk_below (g := gb1001) (vk_ BK1001) hb); replace BK1009 := am_ (blk_below (g := gb1009) (vk_ BK1009) hb); replace HB := am_ (below_step bg_ hb); (try clear hb); (try clear hb2); (try clear hk); (try clear hi); have hcz105_0 := bc5_0 BK1001; have hcz105_1 := bc5_1 BK1001; have hcz105_2 := bc5_2 BK1001; have hcz105_3 := bc5_3 BK1001; have hcz105_4 := bc5_4 BK1001; have hfz105_0 := bf_ BK1001 0; have hfz105_1 := bf_ BK1001 1; have hfz105_2 := bf_ BK1001 2; have hfz105_3 := bf_ BK1001 3; have hfz105_4 := bf_ BK1001 4; have p1013 : 0 ≤ ((ji83) : Int) := od_; have q1013 : (ji83) < (l0_4.length : Int) := od_; obtain ⟨ad1013, A1013_0, c1013_0, e1013, hx1013_0, hx1013_1, hx1013_2, hl1013_0, hi1013_0⟩ := at_T87 HR0_4.out (ji83) p1013 q1013; obtain rfl : ad1008 = ad1013 := (by injection e1013); replace hx1013_0 := kp_ HB hx1013_0; replace hx1013_1 := kp_ HB hx1013_1; replace hx1013_2 := kp_ HB hx1013_2; have HR1013_0 := am_ hi1013_0; have HC1013_0 := am_ hl1013_0; clear hi1013_0 hl1013_0; replace p1013 := eq_true p1013; replace q1013 := eq_true q1013) | ((with_reducible refine gate_dst (N := 9) rfl ?_); (try (refine gate_guard (by rfl) ?_; dsimp only)); refine bx_ 9 #[.slice none 0 0, .int .i64 0, .int .i64 0] 87 ?_; intro gb1014 hg w106 hbox hb; have BK1014 := am_ (hbox); have GW1014 := am_ (gg_ hg : w.heap.size ≤ gb1014); have NB1001_1014 := am_ ((by rw [hg]; exact Nat.ne_of_lt (blk_lt (g := gb1001) (o := .cells #[.int .i64 a0_0, .int .i64 a0_1, .int .i64 a0_2, .slice A0_3 l0_3.length c0_3, .slice (some ad1008) l0_4.length c0_4] 31 (0, 0)) (vk_ BK1001)) : gb1001 ≠ gb1014)); have NB1014_1001 := am_ ((by rw [hg]; exact Nat.ne_of_gt (blk_lt (g := gb1001) (o := .cells #[.int .i64 a0_0, .int .i64 a0_1, .int .i64 a0_2, .slice A0_3 l0_3.length c0_3, .slice (some ad1008) l0_4.length c0_4] 31 (0, 0)) (vk_ BK1001)) : gb1014 ≠ gb1001)); have NB1009_1014 := am_ ((by rw [hg]; exact Nat.ne_of_lt (blk_lt (g := gb1009) (o := .cells #[.slice A1008_0 ((rd_T87 l0_4 x82_3).f0).length c1008_0, .int .i64 ((rd_T87 l0_4 x82_3).f1), .int .i64 ((rd_T87 l0_4 x82_3).f2)] 87 (0, 0)) (vk_ BK1009)) : gb1009 ≠ gb1014)); have NB1014_1009 := am_ ((by rw [hg]; exact Nat.ne_of_gt (blk_lt (g := gb1009) (o := .cells #[.slice A1008_0 ((rd_T87 l0_4 x82_3).f0).length c1008_0, .int .i64 ((rd_T87 l0_4 x82_3).f1), .int .i64 ((rd_T87 l0_4 x82_3).f2)] 87 (0, 0)) (vk_ BK1009)) : gb1014 ≠ gb1009)); replace BK1001 := am_ (blk_below (g := gb1001) (vk_ BK1001) hb); replace BK1009 := am_ (blk_below (g := gb1009) (vk_ BK1009) hb); replace HB := am_ (below_step bg_ hb); have GE1014 := GW1014; clear hb hbox hg; have hnb107 := NB1014_1001.out; have hnc107 := NB1001_1014.out; have hnb108 := NB1014_1009.out; have hnc108 := NB1009_1014.out; have hcz109_0 := bc3_0 BK1014; have hcz109_1 := bc3_1 BK1014; have hcz109_2 := bc3_2 BK1014; have hfz109_0 := bf_ BK1014 0; have hfz109_1 := bf_ BK1014 1; have hfz109_2 := bf_ BK1014 2; have hcz110_0 := bc3_0 BK1009; have hcz110_1 := bc3_1 BK1009; have hcz110_2 := bc3_2 BK1009; have hfz110_0 := bf_ BK1009 0; have hfz110_1 := bf_ BK1009 1; have hfz110_2 := bf_ BK1009 2) | (go_at_call 56; (with_reducible refine (impl_compare.calls kj48 _ _ ((rd_T87 l0_4 (ji83)).f0) _ _ ((rd_T87 l0_4 x82_3).f0) t1015 _ ?side1 ?side2 ?side3 ?side4 A86.out).mono ?_); (case side1 => exact Kd.C_below HR1013_0.out bg_); (case side2 => exact HC1013_0.out); (case side3 => exact Kd.C_below HR1008_0.out bg_); (case side4 => exact HC1008_0.out); rintro e w111 ⟨rfl, hb⟩; replace BK1001 := am_ (blk_below (g := gb1001) (o := .cells #[.int .i64 a0_0, .int .i64 a0_1, .int .i64 a0_2, .slice A0_3 l0_3.length c0_3, .slice (some ad1008) l0_4.length c0_4] 31 (0, 0)) (by (with_reducible repeat (first | refine blk_drewN ?_ _ | refine blk_drew ?_ | refine blk_alloc ?_ _)); refine blk_far ?_ NB1001_1014.out _; (with_reducible repeat (first | refine blk_drewN ?_ _ | refine blk_drew ?_ | refine blk_alloc ?_ _)); refine blk_far ?_ NB1001_1014.out _; (with_reducible repeat (first | refine blk_drewN ?_ _ | refine blk_drew ?_ | refine blk_alloc ?_ _)); refine blk_far ?_ NB1001_1014.out _; (with_reducible repeat (first | refine blk_drewN ?_ _ | refine blk_drew ?_ | refine blk_alloc ?_ _)); exact BK1001.out) hb); replace BK1009 := am_ (blk_below (g := gb1009) (o := .cells #[.slice A1008_0 ((rd_T87 l0_4 x82_3).f0).length c1008_0, .int .i64 ((rd_T87 l0_4 x82_3).f1), .int .i64 ((rd_T87 l0_4 x82_3).f2)] 87 (0, 0)) (by (with_reducible repeat (first | refine blk_drewN ?_ _ | refine blk_drew ?_ | refine blk_alloc ?_ _)); refine blk_far ?_ NB1009_1014.out _; (with_reducible repeat (first | refine blk_drewN ?_ _ | refine blk_drew ?_ | refine blk_alloc ?_ _)); refine blk_far ?_ NB1009_1014.out _; (with_reducible repeat (first | refine blk_drewN ?_ _ | refine blk_drew ?_ | refine blk_alloc ?_ _)); refine blk_far ?_ NB1009_1014.out _; (with_reducible repeat (first | refine blk_drewN ?_ _ | refine blk_drew ?_ | refine blk_alloc ?_ _)); exact BK1009.out) hb); replace BK1014 := am_ (blk_below (g := gb1014) (o := .cells #[.slice A1013_0 ((rd_T87 l0_4 (ji83)).f0).length c1013_0, .int .i64 ((rd_T87 l0_4 (ji83)).f1), .int .i64 ((rd_T87 l0_4 (ji83)).f2)] 87 (0, 0)) (by (with_reducible repeat (first | refine blk_drewN ?_ _ | refine blk_drew ?_ | refine blk_alloc ?_ _)); refine blk_put (cs := #[.slice A1013_0 ((rd_T87 l0_4 (ji83)).f0).length c1013_0, .int .i64 ((rd_T87 l0_4 (ji83)).f1), .int .i64 0]) ?_ 2 _ rfl; (with_reducible repeat (first | refine blk_drewN ?_ _ | refine blk_drew ?_ | refine blk_alloc ?_ _)); refine blk_put (cs := #[.slice A1013_0 ((rd_T87 l0_4 (ji83)).f0).length c1013_0, .int .i64 0, .int .i64 0]) ?_ 1 _ rfl; (with_reducible repeat (first | refine blk_drewN ?_ _ | refine blk_drew ?_ | refine blk_alloc ?_ _)); refine blk_put (cs := #[.slice none 0 0, .int .i64 0, .int .i64 0]) ?_ 0 _ rfl; (with_reducible repeat (first | refine blk_drewN ?_ _ | refine blk_drew ?_ | refine blk_alloc ?_ _)); exact BK1014.out) hb); replace HB := am_ (below_step bg_ hb); (try clear hb); (try clear hb2); (try clear hk); (try clear hi); have hcz112_0 := bc3_0 BK1009; have hcz112_1 := bc3_1 BK1009; have hcz112_2 := bc3_2 BK1009; have hfz112_0 := bf_ BK1009 0; have hfz112_1 := bf_ BK1009 1; have hfz112_2 := bf_ BK1009 2; have hcz113_0 := bc3_0 BK1014; have hcz113_1 := bc3_1 BK1014; have hcz113_2 := bc3_2 BK1014; have hfz113_0 := bf_ BK1014 0; have hfz113_1 := bf_ BK1014 1; have hfz113_2 := bf_ BK1014 2))
                      repeat (go_quiet (first | (go_at_call 55; (with_reducible refine (impl_findSeries.calls kj48 _ _ l0_3 _ _ ((rd_T87 l0_4 x82_3).f0) t1011 true _ ?side1 ?side2 ?side3 ?side4 A76.out).mono ?_); (case side1 => exact cc_ (Kd.C_below HR0_3.out HB.out)); (case side2 => exact HC0_3.out); (case side3 => exact cc_ (Kd.C_below HR1008_0.out HB.out)); (case side4 => exact HC1008_0.out); rintro e w104 ⟨rfl, hb⟩; replace BK1001 := am_ (blk_below (g := gb1001) (vk_ BK1001) hb); replace BK1009 := am_ (blk_below (g := gb1009) (vk_ BK1009) hb); replace HB := am_ (below_step bg_ hb); (try clear hb); (try clear hb2); (try clear hk); (try clear hi); have hcz105_0 := bc5_0 BK1001; have hcz105_1 := bc5_1 BK1001; have hcz105_2 := bc5_2 BK1001; have hcz105_3 := bc5_3 BK1001; have hcz105_4 := bc5_4 BK1001; have hfz105_0 := bf_ BK1001 0; have hfz105_1 := bf_ BK1001 1; have hfz105_2 := bf_ BK1001 2; have hfz105_3 := bf_ BK1001 3; have hfz105_4 := bf_ BK1001 4; have p1013 : 0 ≤ ((ji83) : Int) := od_; have q1013 : (ji83) < (l0_4.length : Int) := od_; obtain ⟨ad1013, A1013_0, c1013_0, e1013, hx1013_0, hx1013_1, hx1013_2, hl1013_0, hi1013_0⟩ := at_T87 HR0_4.out (ji83) p1013 q1013; obtain rfl : ad1008 = ad1013 := (by injection e1013); replace hx1013_0 := kp_ HB hx1013_0; replace hx1013_1 := kp_ HB hx1013_1; replace hx1013_2 := kp_ HB hx1013_2; have HR1013_0 := am_ hi1013_0; have HC1013_0 := am_ hl1013_0; clear hi1013_0 hl1013_0; replace p1013 := eq_true p1013; replace q1013 := eq_true q1013) | ((with_reducible refine gate_dst (N := 9) rfl ?_); (try (refine gate_guard (by rfl) ?_; dsimp only)); refine bx_ 9 #[.slice none 0 0, .int .i64 0, .int .i64 0] 87 ?_; intro gb1014 hg w106 hbox hb; have BK1014 := am_ (hbox); have GW1014 := am_ (gg_ hg : w.heap.size ≤ gb1014); have NB1001_1014 := am_ ((by rw [hg]; exact Nat.ne_of_lt (blk_lt (g := gb1001) (o := .cells #[.int .i64 a0_0, .int .i64 a0_1, .int .i64 a0_2, .slice A0_3 l0_3.length c0_3, .slice (some ad1008) l0_4.length c0_4] 31 (0, 0)) (vk_ BK1001)) : gb1001 ≠ gb1014)); have NB1014_1001 := am_ ((by rw [hg]; exact Nat.ne_of_gt (blk_lt (g := gb1001) (o := .cells #[.int .i64 a0_0, .int .i64 a0_1, .int .i64 a0_2, .slice A0_3 l0_3.length c0_3, .slice (some ad1008) l0_4.length c0_4] 31 (0, 0)) (vk_ BK1001)) : gb1014 ≠ gb1001)); have NB1009_1014 := am_ ((by rw [hg]; exact Nat.ne_of_lt (blk_lt (g := gb1009) (o := .cells #[.slice A1008_0 ((rd_T87 l0_4 x82_3).f0).length c1008_0, .int .i64 ((rd_T87 l0_4 x82_3).f1), .int .i64 ((rd_T87 l0_4 x82_3).f2)] 87 (0, 0)) (vk_ BK1009)) : gb1009 ≠ gb1014)); have NB1014_1009 := am_ ((by rw [hg]; exact Nat.ne_of_gt (blk_lt (g := gb1009) (o := .cells #[.slice A1008_0 ((rd_T87 l0_4 x82_3).f0).length c1008_0, .int .i64 ((rd_T87 l0_4 x82_3).f1), .int .i64 ((rd_T87 l0_4 x82_3).f2)] 87 (0, 0)) (vk_ BK1009)) : gb1014 ≠ gb1009)); replace BK1001 := am_ (blk_below (g := gb1001) (vk_ BK1001) hb); replace BK1009 := am_ (blk_below (g := gb1009) (vk_ BK1009) hb); replace HB := am_ (below_step bg_ hb); have GE1014 := GW1014; clear hb hbox hg; have hnb107 := NB1014_1001.out; have hnc107 := NB1001_1014.out; have hnb108 := NB1014_1009.out; have hnc108 := NB1009_1014.out; have hcz109_0 := bc3_0 BK1014; have hcz109_1 := bc3_1 BK1014; have hcz109_2 := bc3_2 BK1014; have hfz109_0 := bf_ BK1014 0; have hfz109_1 := bf_ BK1014 1; have hfz109_2 := bf_ BK1014 2; have hcz110_0 := bc3_0 BK1009; have hcz110_1 := bc3_1 BK1009; have hcz110_2 := bc3_2 BK1009; have hfz110_0 := bf_ BK1009 0; have hfz110_1 := bf_ BK1009 1; have hfz110_2 := bf_ BK1009 2) | (go_at_call 56; (with_reducible refine (impl_compare.calls kj48 _ _ ((rd_T87 l0_4 (ji83)).f0) _ _ ((rd_T87 l0_4 x82_3).f0) t1015 _ ?side1 ?side2 ?side3 ?side4 A86.out).mono ?_); (case side1 => exact Kd.C_below HR1013_0.out bg_); (case side2 => exact HC1013_0.out); (case side3 => exact Kd.C_below HR1008_0.out bg_); (case side4 => exact HC1008_0.out); rintro e w111 ⟨rfl, hb⟩; replace BK1001 := am_ (blk_below (g := gb1001) (o := .cells #[.int .i64 a0_0, .int .i64 a0_1, .int .i64 a0_2, .slice A0_3 l0_3.length c0_3, .slice (some ad1008) l0_4.length c0_4] 31 (0, 0)) (by (with_reducible repeat (first | refine blk_drewN ?_ _ | refine blk_drew ?_ | refine blk_alloc ?_ _)); refine blk_far ?_ NB1001_1014.out _; (with_reducible repeat (first | refine blk_drewN ?_ _ | refine blk_drew ?_ | refine blk_alloc ?_ _)); refine blk_far ?_ NB1001_1014.out _; (with_reducible repeat (first | refine blk_drewN ?_ _ | refine blk_drew ?_ | refine blk_alloc ?_ _)); refine blk_far ?_ NB1001_1014.out _; (with_reducible repeat (first | refine blk_drewN ?_ _ | refine blk_drew ?_ | refine blk_alloc ?_ _)); exact BK1001.out) hb); replace BK1009 := am_ (blk_below (g := gb1009) (o := .cells #[.slice A1008_0 ((rd_T87 l0_4 x82_3).f0).length c1008_0, .int .i64 ((rd_T87 l0_4 x82_3).f1), .int .i64 ((rd_T87 l0_4 x82_3).f2)] 87 (0, 0)) (by (with_reducible repeat (first | refine blk_drewN ?_ _ | refine blk_drew ?_ | refine blk_alloc ?_ _)); refine blk_far ?_ NB1009_1014.out _; (with_reducible repeat (first | refine blk_drewN ?_ _ | refine blk_drew ?_ | refine blk_alloc ?_ _)); refine blk_far ?_ NB1009_1014.out _; (with_reducible repeat (first | refine blk_drewN ?_ _ | refine blk_drew ?_ | refine blk_alloc ?_ _)); refine blk_far ?_ NB1009_1014.out _; (with_reducible repeat (first | refine blk_drewN ?_ _ | refine blk_drew ?_ | refine blk_alloc ?_ _)); exact BK1009.out) hb); replace BK1014 := am_ (blk_below (g := gb1014) (o := .cells #[.slice A1013_0 ((rd_T87 l0_4 (ji83)).f0).length c1013_0, .int .i64 ((rd_T87 l0_4 (ji83)).f1), .int .i64 ((rd_T87 l0_4 (ji83)).f2)] 87 (0, 0)) (by (with_reducible repeat (first | refine blk_drewN ?_ _ | refine blk_drew ?_ | refine blk_alloc ?_ _)); refine blk_put (cs := #[.slice A1013_0 ((rd_T87 l0_4 (ji83)).f0).length c1013_0, .int .i64 ((rd_T87 l0_4 (ji83)).f1), .int .i64 0]) ?_ 2 _ rfl; (with_reducible repeat (first | refine blk_drewN ?_ _ | refine blk_drew ?_ | refine blk_alloc ?_ _)); refine blk_put (cs := #[.slice A1013_0 ((rd_T87 l0_4 (ji83)).f0).length c1013_0, .int .i64 0, .int .i64 0]) ?_ 1 _ rfl; (with_reducible repeat (first | refine blk_drewN ?_ _ | refine blk_drew ?_ | refine blk_alloc ?_ _)); refine blk_put (cs := #[.slice none 0 0, .int .i64 0, .int .i64 0]) ?_ 0 _ rfl; (with_reducible repeat (first | refine blk_drewN ?_ _ | refine blk_drew ?_ | refine blk_alloc ?_ _)); exact BK1014.out) hb); replace HB := am_ (below_step bg_ hb); (try clear hb); (try clear hb2); (try clear hk); (try clear hi); have hcz112_0 := bc3_0 BK1009; have hcz112_1 := bc3_1 BK1009; have hcz112_2 := bc3_2 BK1009; have hfz112_0 := bf_ BK1009 0; have hfz112_1 := bf_ BK1009 1; have hfz112_2 := bf_ BK1009 2; have hcz113_0 := bc3_0 BK1014; have hcz113_1 := bc3_1 BK1014; have hcz113_2 := bc3_2 BK1014; have hfz113_0 := bf_ BK1014 0; have hfz113_1 := bf_ BK1014 1; have hfz113_2 := bf_ BK1014 2)); try go_wp2)
                      go_ret
                      exact ⟨by first | rfl | (simp [errW_none, errW_some] <;> rfl) | (simp only [← hji83]; first | rfl | (simp [errW_none, errW_some] <;> rfl)) | (simp [*, errW_none, errW_some] <;> rfl) | (simp [*, Go.Proofs.Ytknlgignjbghkaa.Gt.nil_bne]; done), bg_⟩
                     ·rw [if_neg c100] at H
                      have c100b0 : decide (((rd_T87 l0_4 x82_3).f1) ≤ (wrap64 (((rd_T87 l0_4 (ji83)).f2) + 1))) = false := decide_eq_false c100
                      clear c100
                      have H' := am_ H
                      clear H
                      have hnb114 := NB1001_1009.out
                      have hnc114 := NB1009_1001.out
                      have hcz115_0 := bc5_0 BK1001
                      have hcz115_1 := bc5_1 BK1001
                      have hcz115_2 := bc5_2 BK1001
                      have hcz115_3 := bc5_3 BK1001
                      have hcz115_4 := bc5_4 BK1001
                      have hfz115_0 := bf_ BK1001 0
                      have hfz115_1 := bf_ BK1001 1
                      have hfz115_2 := bf_ BK1001 2
                      have hfz115_3 := bf_ BK1001 3
                      have hfz115_4 := bf_ BK1001 4
                      have hcz116_0 := bc3_0 BK1009
                      have hcz116_1 := bc3_1 BK1009
                      have hcz116_2 := bc3_2 BK1009
                      have hfz116_0 := bf_ BK1009 0
                      have hfz116_1 := bf_ BK1009 1
                      have hfz116_2 := bf_ BK1009 2
                      go_wp2_with (first | (go_at_call 55; (with_reducible refine (impl_findSeries.calls kj48 _ _ l0_3 _ _ ((rd_T87 l0_4 x82_3).f0) t1011 true _ ?side1 ?side2 ?side3 ?side4 A76.out).mono ?_); (case side1 => exact cc_ (Kd.C_below HR0_3.out HB.out)); (case side2 => exact HC0_3.out); (case side3 => exact cc_ (Kd.C_below HR1008_0.out HB.out)); (case side4 => exact HC1008_0.out); rintro e w117 ⟨rfl, hb⟩; replace BK1001 := am_ (blk_below (g := gb1001) (vk_ BK1001) hb); replace BK1009 := am_ (blk_below (g := gb1009) (vk_ BK1009) hb); replace HB := am_ (below_step bg_ hb); (try clear hb); (try clear hb2); (try clear hk); (try clear hi); have hcz118_0 := bc5_0 BK1001; have hcz118_1 := bc5_1 BK1001; have hcz118_2 := bc5_2 BK1001; have hcz118_3 := bc5_3 BK1001; have hcz118_4 := bc5_4 BK1001; have hfz118_0 := bf_ BK1001 0; have hfz118_1 := bf_ BK1001 1; have hfz118_2 := bf_ BK1001 2; have hfz118_3 := bf_ BK1001 3; have hfz118_4 := bf_ BK1001 4; have p1013 : 0 ≤ ((ji83) : Int) := od_; have q1013 : (ji83) < (l0_4.length : Int) := od_; obtain ⟨ad1013, A1013_0, c1013_0, e1013, hx1013_0, hx1013_1, hx1013_2, hl1013_0, hi1013_0⟩ := at_T87 HR0_4.out (ji83) p1013 q1013; obtain rfl : ad1008 = ad1013 := (by injection e1013); replace hx1013_0 := kp_ HB hx1013_0; replace hx1013_1 := kp_ HB hx1013_1; replace hx1013_2 := kp_ HB hx1013_2; have HR1013_0 := am_ hi1013_0; have HC1013_0 := am_ hl1013_0; clear hi1013_0 hl1013_0; replace p1013 := eq_true p1013; replace q1013 := eq_true q1013) | ((with_reducible refine gate_dst (N := 9) rfl ?_); (try (refine gate_guard (by rfl) ?_; dsimp only)); refine bx_ 9 #[.slice none 0 0, .int .i64 0, .int .i64 0] 87 ?_; intro gb1014 hg w119 hbox hb; have BK1014 := am_ (hbox); have GW1014 := am_ (gg_ hg : w.heap.size ≤ gb1014); have NB1001_1014 := am_ ((by rw [hg]; exact Nat.ne_of_lt (blk_lt (g := gb1001) (o := .cells #[.int .i64 a0_0, .int .i64 a0_1, .int .i64 a0_2, .slice A0_3 l0_3.length c0_3, .slice (some ad1008) l0_4.length c0_4] 31 (0, 0)) (vk_ BK1001)) : gb1001 ≠ gb1014)); have NB1014_1001 := am_ ((by rw [hg]; exact Nat.ne_of_gt (blk_lt (g := gb1001) (o := .cells #[.int .i64 a0_0, .int .i64 a0_1, .int .i64 a0_2, .slice A0_3 l0_3.length c0_3, .slice (some ad1008) l0_4.length c0_4] 31 (0, 0)) (vk_ BK1001)) : gb1014 ≠ gb1001)); have NB1009_1014 := am_ ((by rw [hg]; exact Nat.ne_of_lt (blk_lt (g := gb1009) (o := .cells #[.slice A1008_0 ((rd_T87 l0_4 x82_3).f0).length c1008_0, .int .i64 ((rd_T87 l0_4 x82_3).f1), .int .i64 ((rd_T87 l0_4 x82_3).f2)] 87 (0, 0)) (vk_ BK1009)) : gb1009 ≠ gb1014)); have NB1014_1009 := am_ ((by rw [hg]; exact Nat.ne_of_gt (blk_lt (g := gb1009) (o := .cells #[.slice A1008_0 ((rd_T87 l0_4 x82_3).f0).length c1008_0, .int .i64 ((rd_T87 l0_4 x82_3).f1), .int .i64 ((rd_T87 l0_4 x82_3).f2)] 87 (0, 0)) (vk_ BK1009)) : gb1014 ≠ gb1009)); replace BK1001 := am_ (blk_below (g := gb1001) (vk_ BK1001) hb); replace BK1009 := am_ (blk_below (g := gb1009) (vk_ BK1009) hb); replace HB := am_ (below_step bg_ hb); have GE1014 := GW1014; clear hb hbox hg; have hnb120 := NB1014_1001.out; have hnc120 := NB1001_1014.out; have hnb121 := NB1014_1009.out; have hnc121 := NB1009_1014.out; have hcz122_0 := bc3_0 BK1014; have hcz122_1 := bc3_1 BK1014; have hcz122_2 := bc3_2 BK1014; have hfz122_0 := bf_ BK1014 0; have hfz122_1 := bf_ BK1014 1; have hfz122_2 := bf_ BK1014 2; have hcz123_0 := bc3_0 BK1009; have hcz123_1 := bc3_1 BK1009; have hcz123_2 := bc3_2 BK1009; have hfz123_0 := bf_ BK1009 0; have hfz123_1 := bf_ BK1009 1; have hfz123_2 := bf_ BK1009 2) | (go_at_call 56; (with_reducible refine (impl_compare.calls kj48 _ _ ((rd_T87 l0_4 (ji83)).f0) _ _ ((rd_T87 l0_4 x82_3).f0) t1015 _ ?side1 ?side2 ?side3 ?side4 A86.out).mono ?_); (case side1 => exact Kd.C_below HR1013_0.out bg_); (case side2 => exact HC1013_0.out); (case side3 => exact Kd.C_below HR1008_0.out bg_); (case side4 => exact HC1008_0.out); rintro e w124 ⟨rfl, hb⟩; replace BK1001 := am_ (blk_below (g := gb1001) (o := .cells #[.int .i64 a0_0, .int .i64 a0_1, .int .i64 a0_2, .slice A0_3 l0_3.length c0_3, .slice (some ad1008) l0_4.length c0_4] 31 (0, 0)) (by (with_reducible repeat (first | refine blk_drewN ?_ _ | refine blk_drew ?_ | refine blk_alloc ?_ _)); refine blk_far ?_ NB1001_1014.out _; (with_reducible repeat (first | refine blk_drewN ?_ _ | refine blk_drew ?_ | refine blk_alloc ?_ _)); refine blk_far ?_ NB1001_1014.out _; (with_reducible repeat (first | refine blk_drewN ?_ _ | refine blk_drew ?_ | refine blk_alloc ?_ _)); refine blk_far ?_ NB1001_1014.out _; (with_reducible repeat (first | refine blk_drewN ?_ _ | refine blk_drew ?_ | refine blk_alloc ?_ _)); exact BK1001.out) hb); replace BK1009 := am_ (blk_below (g := gb1009) (o := .cells #[.slice A1008_0 ((rd_T87 l0_4 x82_3).f0).length c1008_0, .int .i64 ((rd_T87 l0_4 x82_3).f1), .int .i64 ((rd_T87 l0_4 x82_3).f2)] 87 (0, 0)) (by (with_reducible repeat (first | refine blk_drewN ?_ _ | refine blk_drew ?_ | refine blk_alloc ?_ _)); refine blk_far ?_ NB1009_1014.out _; (with_reducible repeat (first | refine blk_drewN ?_ _ | refine blk_drew ?_ | refine blk_alloc ?_ _)); refine blk_far ?_ NB1009_1014.out _; (with_reducible repeat (first | refine blk_drewN ?_ _ | refine blk_drew ?_ | refine blk_alloc ?_ _)); refine blk_far ?_ NB1009_1014.out _; (with_reducible repeat (first | refine blk_drewN ?_ _ | refine blk_drew ?_ | refine blk_alloc ?_ _)); exact BK1009.out) hb); replace BK1014 := am_ (blk_below (g := gb1014) (o := .cells #[.slice A1013_0 ((rd_T87 l0_4 (ji83)).f0).length c1013_0, .int .i64 ((rd_T87 l0_4 (ji83)).f1), .int .i64 ((rd_T87 l0_4 (ji83)).f2)] 87 (0, 0)) (by (with_reducible repeat (first | refine blk_drewN ?_ _ | refine blk_drew ?_ | refine blk_alloc ?_ _)); refine blk_put (cs := #[.slice A1013_0 ((rd_T87 l0_4 (ji83)).f0).length c1013_0, .int .i64 ((rd_T87 l0_4 (ji83)).f1), .int .i64 0]) ?_ 2 _ rfl; (with_reducible repeat (first | refine blk_drewN ?_ _ | refine blk_drew ?_ | refine blk_alloc ?_ _)); refine blk_put (cs := #[.slice A1013_0 ((rd_T87 l0_4 (ji83)).f0).length c1013_0, .int .i64 0, .int .i64 0]) ?_ 1 _ rfl; (with_reducible repeat (first | refine blk_drewN ?_ _ | refine blk_drew ?_ | refine blk_alloc ?_ _)); refine blk_put (cs := #[.slice none 0 0, .int .i64 0, .int .i64 0]) ?_ 0 _ rfl; (with_reducible repeat (first | refine blk_drewN ?_ _ | refine blk_drew ?_ | refine blk_alloc ?_ _)); exact BK1014.out) hb); replace HB := am_ (below_step bg_ hb); (try clear hb); (try clear hb2); (try clear hk); (try clear hi); have hcz125_0 := bc3_0 BK1009; have hcz125_1 := bc3_1 BK1009; have hcz125_2 := bc3_2 BK1009; have hfz125_0 := bf_ BK1009 0; have hfz125_1 := bf_ BK1009 1; have hfz125_2 := bf_ BK1009 2; have hcz126_0 := bc3_0 BK1014; have hcz126_1 := bc3_1 BK1014; have hcz126_2 := bc3_2 BK1014; have hfz126_0 := bf_ BK1014 0; have hfz126_1 := bf_ BK1014 1; have hfz126_2 := bf_ BK1014 2))
                      repeat (go_quiet (first | (go_at_call 55; (with_reducible refine (impl_findSeries.calls kj48 _ _ l0_3 _ _ ((rd_T87 l0_4 x82_3).f0) t1011 true _ ?side1 ?side2 ?side3 ?side4 A76.out).mono ?_); (case side1 => exact cc_ (Kd.C_below HR0_3.out HB.out)); (case side2 => exact HC0_3.out); (case side3 => exact cc_ (Kd.C_below HR1008_0.out HB.out)); (case side4 => exact HC1008_0.out); rintro e w117 ⟨rfl, hb⟩; replace BK1001 := am_ (blk_below (g := gb1001) (vk_ BK1001) hb); replace BK1009 := am_ (blk_below (g := gb1009) (vk_ BK1009) hb); replace HB := am_ (below_step bg_ hb); (try clear hb); (try clear hb2); (try clear hk); (try clear hi); have hcz118_0 := bc5_0 BK1001; have hcz118_1 := bc5_1 BK1001; have hcz118_2 := bc5_2 BK1001; have hcz118_3 := bc5_3 BK1001; have hcz118_4 := bc5_4 BK1001; have hfz118_0 := bf_ BK1001 0; have hfz118_1 := bf_ BK1001 1; have hfz118_2 := bf_ BK1001 2; have hfz118_3 := bf_ BK1001 3; have hfz118_4 := bf_ BK1001 4; have p1013 : 0 ≤ ((ji83) : Int) := od_; have q1013 : (ji83) < (l0_4.length : Int) := od_; obtain ⟨ad1013, A1013_0, c1013_0, e1013, hx1013_0, hx1013_1, hx1013_2, hl1013_0, hi1013_0⟩ := at_T87 HR0_4.out (ji83) p1013 q1013; obtain rfl : ad1008 = ad1013 := (by injection e1013); replace hx1013_0 := kp_ HB hx1013_0; replace hx1013_1 := kp_ HB hx1013_1; replace hx1013_2 := kp_ HB hx1013_2; have HR1013_0 := am_ hi1013_0; have HC1013_0 := am_ hl1013_0; clear hi1013_0 hl1013_0; replace p1013 := eq_true p1013; replace q1013 := eq_true q1013) | ((with_reducible refine gate_dst (N := 9) rfl ?_); (try (refine gate_guard (by rfl) ?_; dsimp only)); refine bx_ 9 #[.slice none 0 0, .int .i64 0, .int .i64 0] 87 ?_; intro gb1014 hg w119 hbox hb; have BK1014 := am_ (hbox); have GW1014 := am_ (gg_ hg : w.heap.size ≤ gb1014); have NB1001_1014 := am_ ((by rw [hg]; exact Nat.ne_of_lt (blk_lt (g := gb1001) (o := .cells #[.int .i64 a0_0, .int .i64 a0_1, .int .i64 a0_2, .slice A0_3 l0_3.length c0_3, .slice (some ad1008) l0_4.length c0_4] 31 (0, 0)) (vk_ BK1001)) : gb1001 ≠ gb1014)); have NB1014_1001 := am_ ((by rw [hg]; exact Nat.ne_of_gt (blk_lt (g := gb1001) (o := .cells #[.int .i64 a0_0, .int .i64 a0_1, .int .i64 a0_2, .slice A0_3 l0_3.length c0_3, .slice (some ad1008) l0_4.length c0_4] 31 (0, 0)) (vk_ BK1001)) : gb1014 ≠ gb1001)); have NB1009_1014 := am_ ((by rw [hg]; exact Nat.ne_of_lt (blk_lt (g := gb1009) (o := .cells #[.slice A1008_0 ((rd_T87 l0_4 x82_3).f0).length c1008_0, .int .i64 ((rd_T87 l0_4 x82_3).f1), .int .i64 ((rd_T87 l0_4 x82_3).f2)] 87 (0, 0)) (vk_ BK1009)) : gb1009 ≠ gb1014)); have NB1014_1009 := am_ ((by rw [hg]; exact Nat.ne_of_gt (blk_lt (g := gb1009) (o := .cells #[.slice A1008_0 ((rd_T87 l0_4 x82_3).f0).length c1008_0, .int .i64 ((rd_T87 l0_4 x82_3).f1), .int .i64 ((rd_T87 l0_4 x82_3).f2)] 87 (0, 0)) (vk_ BK1009)) : gb1014 ≠ gb1009)); replace BK1001 := am_ (blk_below (g := gb1001) (vk_ BK1001) hb); replace BK1009 := am_ (blk_below (g := gb1009) (vk_ BK1009) hb); replace HB := am_ (below_step bg_ hb); have GE1014 := GW1014; clear hb hbox hg; have hnb120 := NB1014_1001.out; have hnc120 := NB1001_1014.out; have hnb121 := NB1014_1009.out; have hnc121 := NB1009_1014.out; have hcz122_0 := bc3_0 BK1014; have hcz122_1 := bc3_1 BK1014; have hcz122_2 := bc3_2 BK1014; have hfz122_0 := bf_ BK1014 0; have hfz122_1 := bf_ BK1014 1; have hfz122_2 := bf_ BK1014 2; have hcz123_0 := bc3_0 BK1009; have hcz123_1 := bc3_1 BK1009; have hcz123_2 := bc3_2 BK1009; have hfz123_0 := bf_ BK1009 0; have hfz123_1 := bf_ BK1009 1; have hfz123_2 := bf_ BK1009 2) | (go_at_call 56; (with_reducible refine (impl_compare.calls kj48 _ _ ((rd_T87 l0_4 (ji83)).f0) _ _ ((rd_T87 l0_4 x82_3).f0) t1015 _ ?side1 ?side2 ?side3 ?side4 A86.out).mono ?_); (case side1 => exact Kd.C_below HR1013_0.out bg_); (case side2 => exact HC1013_0.out); (case side3 => exact Kd.C_below HR1008_0.out bg_); (case side4 => exact HC1008_0.out); rintro e w124 ⟨rfl, hb⟩; replace BK1001 := am_ (blk_below (g := gb1001) (o := .cells #[.int .i64 a0_0, .int .i64 a0_1, .int .i64 a0_2, .slice A0_3 l0_3.length c0_3, .slice (some ad1008) l0_4.length c0_4] 31 (0, 0)) (by (with_reducible repeat (first | refine blk_drewN ?_ _ | refine blk_drew ?_ | refine blk_alloc ?_ _)); refine blk_far ?_ NB1001_1014.out _; (with_reducible repeat (first | refine blk_drewN ?_ _ | refine blk_drew ?_ | refine blk_alloc ?_ _)); refine blk_far ?_ NB1001_1014.out _; (with_reducible repeat (first | refine blk_drewN ?_ _ | refine blk_drew ?_ | refine blk_alloc ?_ _)); refine blk_far ?_ NB1001_1014.out _; (with_reducible repeat (first | refine blk_drewN ?_ _ | refine blk_drew ?_ | refine blk_alloc ?_ _)); exact BK1001.out) hb); replace BK1009 := am_ (blk_below (g := gb1009) (o := .cells #[.slice A1008_0 ((rd_T87 l0_4 x82_3).f0).length c1008_0, .int .i64 ((rd_T87 l0_4 x82_3).f1), .int .i64 ((rd_T87 l0_4 x82_3).f2)] 87 (0, 0)) (by (with_reducible repeat (first | refine blk_drewN ?_ _ | refine blk_drew ?_ | refine blk_alloc ?_ _)); refine blk_far ?_ NB1009_1014.out _; (with_reducible repeat (first | refine blk_drewN ?_ _ | refine blk_drew ?_ | refine blk_alloc ?_ _)); refine blk_far ?_ NB1009_1014.out _; (with_reducible repeat (first | refine blk_drewN ?_ _ | refine blk_drew ?_ | refine blk_alloc ?_ _)); refine blk_far ?_ NB1009_1014.out _; (with_reducible repeat (first | refine blk_drewN ?_ _ | refine blk_drew ?_ | refine blk_alloc ?_ _)); exact BK1009.out) hb); replace BK1014 := am_ (blk_below (g := gb1014) (o := .cells #[.slice A1013_0 ((rd_T87 l0_4 (ji83)).f0).length c1013_0, .int .i64 ((rd_T87 l0_4 (ji83)).f1), .int .i64 ((rd_T87 l0_4 (ji83)).f2)] 87 (0, 0)) (by (with_reducible repeat (first | refine blk_drewN ?_ _ | refine blk_drew ?_ | refine blk_alloc ?_ _)); refine blk_put (cs := #[.slice A1013_0 ((rd_T87 l0_4 (ji83)).f0).length c1013_0, .int .i64 ((rd_T87 l0_4 (ji83)).f1), .int .i64 0]) ?_ 2 _ rfl; (with_reducible repeat (first | refine blk_drewN ?_ _ | refine blk_drew ?_ | refine blk_alloc ?_ _)); refine blk_put (cs := #[.slice A1013_0 ((rd_T87 l0_4 (ji83)).f0).length c1013_0, .int .i64 0, .int .i64 0]) ?_ 1 _ rfl; (with_reducible repeat (first | refine blk_drewN ?_ _ | refine blk_drew ?_ | refine blk_alloc ?_ _)); refine blk_put (cs := #[.slice none 0 0, .int .i64 0, .int .i64 0]) ?_ 0 _ rfl; (with_reducible repeat (first | refine blk_drewN ?_ _ | refine blk_drew ?_ | refine blk_alloc ?_ _)); exact BK1014.out) hb); replace HB := am_ (below_step bg_ hb); (try clear hb); (try clear hb2); (try clear hk); (try clear hi); have hcz125_0 := bc3_0 BK1009; have hcz125_1 := bc3_1 BK1009; have hcz125_2 := bc3_2 BK1009; have hfz125_0 := bf_ BK1009 0; have hfz125_1 := bf_ BK1009 1; have hfz125_2 := bf_ BK1009 2; have hcz126_0 := bc3_0 BK1014; have hcz126_1 := bc3_1 BK1014; have hcz126_2 := bc3_2 BK1014; have hfz126_0 := bf_ BK1014 0; have hfz126_1 := bf_ BK1014 1; have hfz126_2 := bf_ BK1014 2)); try go_wp2)
                      go_roundg kj48
                      case measure => have := HJ1.out; have := HK2.out; have := HK3.out; have := HJ48.out; omega
                      case rel => exact ⟨(wrap64 (x82_3 + 1)), rs_, H', ⟨by have := HJ1.out; have := HK2.out; have := HK3.out; have := HJ48.out; omega⟩, ⟨vk_ BK1001⟩, ⟨bg_⟩⟩
                    ·rw [if_neg c99] at H
                     have c99b0 : (t1015 == 0) = false := beq_eq_false_iff_ne.mpr c99
                     have c99b1 : (t1015 != 0) = true := bne_iff_ne.mpr c99
                     have H' := am_ H
                     clear H
                     have hnb127 := NB1001_1009.out
                     have hnc127 := NB1009_1001.out
                     have hcz128_0 := bc5_0 BK1001
                     have hcz128_1 := bc5_1 BK1001
                     have hcz128_2 := bc5_2 BK1001
                     have hcz128_3 := bc5_3 BK1001
                     have hcz128_4 := bc5_4 BK1001
                     have hfz128_0 := bf_ BK1001 0
                     have hfz128_1 := bf_ BK1001 1
                     have hfz128_2 := bf_ BK1001 2
                     have hfz128_3 := bf_ BK1001 3
                     have hfz128_4 := bf_ BK1001 4
                     have hcz129_0 := bc3_0 BK1009
                     have hcz129_1 := bc3_1 BK1009
                     have hcz129_2 := bc3_2 BK1009
                     have hfz129_0 := bf_ BK1009 0
                     have hfz129_1 := bf_ BK1009 1
                     have hfz129_2 := bf_ BK1009 2
                     go_wp2_with (first | (go_at_call 55; (with_reducible refine (impl_findSeries.calls kj48 _ _ l0_3 _ _ ((rd_T87 l0_4 x82_3).f0) t1011 true _ ?side1 ?side2 ?side3 ?side4 A76.out).mono ?_); (case side1 => exact cc_ (Kd.C_below HR0_3.out HB.out)); (case side2 => exact HC0_3.out); (case side3 => exact cc_ (Kd.C_below HR1008_0.out HB.out)); (case side4 => exact HC1008_0.out); rintro e w130 ⟨rfl, hb⟩; replace BK1001 := am_ (blk_below (g := gb1001) (vk_ BK1001) hb); replace BK1009 := am_ (blk_below (g := gb1009) (vk_ BK1009) hb); replace HB := am_ (below_step bg_ hb); (try clear hb); (try clear hb2); (try clear hk); (try clear hi); have hcz131_0 := bc5_0 BK1001; have hcz131_1 := bc5_1 BK1001; have hcz131_2 := bc5_2 BK1001; have hcz131_3 := bc5_3 BK1001; have hcz131_4 := bc5_4 BK1001; have hfz131_0 := bf_ BK1001 0; have hfz131_1 := bf_ BK1001 1; have hfz131_2 := bf_ BK1001 2; have hfz131_3 := bf_ BK1001 3; have hfz131_4 := bf_ BK1001 4; have p1013 : 0 ≤ ((ji83) : Int) := od_; have q1013 : (ji83) < (l0_4.length : Int) := od_; obtain ⟨ad1013, A1013_0, c1013_0, e1013, hx1013_0, hx1013_1, hx1013_2, hl1013_0, hi1013_0⟩ := at_T87 HR0_4.out (ji83) p1013 q1013; obtain rfl : ad1008 = ad1013 := (by injection e1013); replace hx1013_0 := kp_ HB hx1013_0; replace hx1013_1 := kp_ HB hx1013_1; replace hx1013_2 := kp_ HB hx1013_2; have HR1013_0 := am_ hi1013_0; have HC1013_0 := am_ hl1013_0; clear hi1013_0 hl1013_0; replace p1013 := eq_true p1013; replace q1013 := eq_true q1013) | ((with_reducible refine gate_dst (N := 9) rfl ?_); (try (refine gate_guard (by rfl) ?_; dsimp only)); refine bx_ 9 #[.slice none 0 0, .int .i64 0, .int .i64 0] 87 ?_; intro gb1014 hg w132 hbox hb; have BK1014 := am_ (hbox); have GW1014 := am_ (gg_ hg : w.heap.size ≤ gb1014); have NB1001_1014 := am_ ((by rw [hg]; exact Nat.ne_of_lt (blk_lt (g := gb1001) (o := .cells #[.int .i64 a0_0, .int .i64 a0_1, .int .i64 a0_2, .slice A0_3 l0_3.length c0_3, .slice (some ad1008) l0_4.length c0_4] 31 (0, 0)) (vk_ BK1001)) : gb1001 ≠ gb1014)); have NB1014_1001 := am_ ((by rw [hg]; exact Nat.ne_of_gt (blk_lt (g := gb1001) (o := .cells #[.int .i64 a0_0, .int .i64 a0_1, .int .i64 a0_2, .slice A0_3 l0_3.length c0_3, .slice (some ad1008) l0_4.length c0_4] 31 (0, 0)) (vk_ BK1001)) : gb1014 ≠ gb1001)); have NB1009_1014 := am_ ((by rw [hg]; exact Nat.ne_of_lt (blk_lt (g := gb1009) (o := .cells #[.slice A1008_0 ((rd_T87 l0_4 x82_3).f0).length c1008_0, .int .i64 ((rd_T87 l0_4 x82_3).f1), .int .i64 ((rd_T87 l0_4 x82_3).f2)] 87 (0, 0)) (vk_ BK1009)) : gb1009 ≠ gb1014)); have NB1014_1009 := am_ ((by rw [hg]; exact Nat.ne_of_gt (blk_lt (g := gb1009) (o := .cells #[.slice A1008_0 ((rd_T87 l0_4 x82_3).f0).length c1008_0, .int .i64 ((rd_T87 l0_4 x82_3).f1), .int .i64 ((rd_T87 l0_4 x82_3).f2)] 87 (0, 0)) (vk_ BK1009)) : gb1014 ≠ gb1009)); replace BK1001 := am_ (blk_below (g := gb1001) (vk_ BK1001) hb); replace BK1009 := am_ (blk_below (g := gb1009) (vk_ BK1009) hb); replace HB := am_ (below_step bg_ hb); have GE1014 := GW1014; clear hb hbox hg; have hnb133 := NB1014_1001.out; have hnc133 := NB1001_1014.out; have hnb134 := NB1014_1009.out; have hnc134 := NB1009_1014.out; have hcz135_0 := bc3_0 BK1014; have hcz135_1 := bc3_1 BK1014; have hcz135_2 := bc3_2 BK1014; have hfz135_0 := bf_ BK1014 0; have hfz135_1 := bf_ BK1014 1; have hfz135_2 := bf_ BK1014 2; have hcz136_0 := bc3_0 BK1009; have hcz136_1 := bc3_1 BK1009; have hcz136_2 := bc3_2 BK1009; have hfz136_0 := bf_ BK1009 0; have hfz136_1 := bf_ BK1009 1; have hfz136_2 := bf_ BK1009 2) | (go_at_call 56; (with_reducible refine (impl_compare.calls kj48 _ _ ((rd_T87 l0_4 (ji83)).f0) _ _ ((rd_T87 l0_4 x82_3).f0) t1015 _ ?side1 ?side2 ?side3 ?side4 A86.out).mono ?_); (case side1 => exact Kd.C_below HR1013_0.out bg_); (case side2 => exact HC1013_0.out); (case side3 => exact Kd.C_below HR1008_0.out bg_); (case side4 => exact HC1008_0.out); rintro e w137 ⟨rfl, hb⟩; replace BK1001 := am_ (blk_below (g := gb1001) (o := .cells #[.int .i64 a0_0, .int .i64 a0_1, .int .i64 a0_2, .slice A0_3 l0_3.length c0_3, .slice (some ad1008) l0_4.length c0_4] 31 (0, 0)) (by (with_reducible repeat (first | refine blk_drewN ?_ _ | refine blk_drew ?_ | refine blk_alloc ?_ _)); refine blk_far ?_ NB1001_1014.out _; (with_reducible repeat (first | refine blk_drewN ?_ _ | refine blk_drew ?_ | refine blk_alloc ?_ _)); refine blk_far ?_ NB1001_1014.out _; (with_reducible repeat (first | refine blk_drewN ?_ _ | refine blk_drew ?_ | refine blk_alloc ?_ _)); refine blk_far ?_ NB1001_1014.out _; (with_reducible repeat (first | refine blk_drewN ?_ _ | refine blk_drew ?_ | refine blk_alloc ?_ _)); exact BK1001.out) hb); replace BK1009 := am_ (blk_below (g := gb1009) (o := .cells #[.slice A1008_0 ((rd_T87 l0_4 x82_3).f0).length c1008_0, .int .i64 ((rd_T87 l0_4 x82_3).f1), .int .i64 ((rd_T87 l0_4 x82_3).f2)] 87 (0, 0)) (by (with_reducible repeat (first | refine blk_drewN ?_ _ | refine blk_drew ?_ | refine blk_alloc ?_ _)); refine blk_far ?_ NB1009_1014.out _; (with_reducible repeat (first | refine blk_drewN ?_ _ | refine blk_drew ?_ | refine blk_alloc ?_ _)); refine blk_far ?_ NB1009_1014.out _; (with_reducible repeat (first | refine blk_drewN ?_ _ | refine blk_drew ?_ | refine blk_alloc ?_ _)); refine blk_far ?_ NB1009_1014.out _; (with_reducible repeat (first | refine blk_drewN ?_ _ | refine blk_drew ?_ | refine blk_alloc ?_ _)); exact BK1009.out) hb); replace BK1014 := am_ (blk_below (g := gb1014) (o := .cells #[.slice A1013_0 ((rd_T87 l0_4 (ji83)).f0).length c1013_0, .int .i64 ((rd_T87 l0_4 (ji83)).f1), .int .i64 ((rd_T87 l0_4 (ji83)).f2)] 87 (0, 0)) (by (with_reducible repeat (first | refine blk_drewN ?_ _ | refine blk_drew ?_ | refine blk_alloc ?_ _)); refine blk_put (cs := #[.slice A1013_0 ((rd_T87 l0_4 (ji83)).f0).length c1013_0, .int .i64 ((rd_T87 l0_4 (ji83)).f1), .int .i64 0]) ?_ 2 _ rfl; (with_reducible repeat (first | refine blk_drewN ?_ _ | refine blk_drew ?_ | refine blk_alloc ?_ _)); refine blk_put (cs := #[.slice A1013_0 ((rd_T87 l0_4 (ji83)).f0).length c1013_0, .int .i64 0, .int .i64 0]) ?_ 1 _ rfl; (with_reducible repeat (first | refine blk_drewN ?_ _ | refine blk_drew ?_ | refine blk_alloc ?_ _)); refine blk_put (cs := #[.slice none 0 0, .int .i64 0, .int .i64 0]) ?_ 0 _ rfl; (with_reducible repeat (first | refine blk_drewN ?_ _ | refine blk_drew ?_ | refine blk_alloc ?_ _)); exact BK1014.out) hb); replace HB := am_ (below_step bg_ hb); (try clear hb); (try clear hb2); (try clear hk); (try clear hi)))
                     repeat (go_quiet (first | (go_at_call 55; (with_reducible refine (impl_findSeries.calls kj48 _ _ l0_3 _ _ ((rd_T87 l0_4 x82_3).f0) t1011 true _ ?side1 ?side2 ?side3 ?side4 A76.out).mono ?_); (case side1 => exact cc_ (Kd.C_below HR0_3.out HB.out)); (case side2 => exact HC0_3.out); (case side3 => exact cc_ (Kd.C_below HR1008_0.out HB.out)); (case side4 => exact HC1008_0.out); rintro e w130 ⟨rfl, hb⟩; replace BK1001 := am_ (blk_below (g := gb1001) (vk_ BK1001) hb); replace BK1009 := am_ (blk_below (g := gb1009) (vk_ BK1009) hb); replace HB := am_ (below_step bg_ hb); (try clear hb); (try clear hb2); (try clear hk); (try clear hi); have hcz131_0 := bc5_0 BK1001; have hcz131_1 := bc5_1 BK1001; have hcz131_2 := bc5_2 BK1001; have hcz131_3 := bc5_3 BK1001; have hcz131_4 := bc5_4 BK1001; have hfz131_0 := bf_ BK1001 0; have hfz131_1 := bf_ BK1001 1; have hfz131_2 := bf_ BK1001 2; have hfz131_3 := bf_ BK1001 3; have hfz131_4 := bf_ BK1001 4; have p1013 : 0 ≤ ((ji83) : Int) := od_; have q1013 : (ji83) < (l0_4.length : Int) := od_; obtain ⟨ad1013, A1013_0, c1013_0, e1013, hx1013_0, hx1013_1, hx1013_2, hl1013_0, hi1013_0⟩ := at_T87 HR0_4.out (ji83) p1013 q1013; obtain rfl : ad1008 = ad1013 := (by injection e1013); replace hx1013_0 := kp_ HB hx1013_0; replace hx1013_1 := kp_ HB hx1013_1; replace hx1013_2 := kp_ HB hx1013_2; have HR1013_0 := am_ hi1013_0; have HC1013_0 := am_ hl1013_0; clear hi1013_0 hl1013_0; replace p1013 := eq_true p1013; replace q1013 := eq_true q1013) | ((with_reducible refine gate_dst (N := 9) rfl ?_); (try (refine gate_guard (by rfl) ?_; dsimp only)); refine bx_ 9 #[.slice none 0 0, .int .i64 0, .int .i64 0] 87 ?_; intro gb1014 hg w132 hbox hb; have BK1014 := am_ (hbox); have GW1014 := am_ (gg_ hg : w.heap.size ≤ gb1014); have NB1001_1014 := am_ ((by rw [hg]; exact Nat.ne_of_lt (blk_lt (g := gb1001) (o := .cells #[.int .i64 a0_0, .int .i64 a0_1, .int .i64 a0_2, .slice A0_3 l0_3.length c0_3, .slice (some ad1008) l0_4.length c0_4] 31 (0, 0)) (vk_ BK1001)) : gb1001 ≠ gb1014)); have NB1014_1001 := am_ ((by rw [hg]; exact Nat.ne_of_gt (blk_lt (g := gb1001) (o := .cells #[.int .i64 a0_0, .int .i64 a0_1, .int .i64 a0_2, .slice A0_3 l0_3.length c0_3, .slice (some ad1008) l0_4.length c0_4] 31 (0, 0)) (vk_ BK1001)) : gb1014 ≠ gb1001)); have NB1009_1014 := am_ ((by rw [hg]; exact Nat.ne_of_lt (blk_lt (g := gb1009) (o := .cells #[.slice A1008_0 ((rd_T87 l0_4 x82_3).f0).length c1008_0, .int .i64 ((rd_T87 l0_4 x82_3).f1), .int .i64 ((rd_T87 l0_4 x82_3).f2)] 87 (0, 0)) (vk_ BK1009)) : gb1009 ≠ gb1014)); have NB1014_1009 := am_ ((by rw [hg]; exact Nat.ne_of_gt (blk_lt (g := gb1009) (o := .cells #[.slice A1008_0 ((rd_T87 l0_4 x82_3).f0).length c1008_0, .int .i64 ((rd_T87 l0_4 x82_3).f1), .int .i64 ((rd_T87 l0_4 x82_3).f2)] 87 (0, 0)) (vk_ BK1009)) : gb1014 ≠ gb1009)); replace BK1001 := am_ (blk_below (g := gb1001) (vk_ BK1001) hb); replace BK1009 := am_ (blk_below (g := gb1009) (vk_ BK1009) hb); replace HB := am_ (below_step bg_ hb); have GE1014 := GW1014; clear hb hbox hg; have hnb133 := NB1014_1001.out; have hnc133 := NB1001_1014.out; have hnb134 := NB1014_1009.out; have hnc134 := NB1009_1014.out; have hcz135_0 := bc3_0 BK1014; have hcz135_1 := bc3_1 BK1014; have hcz135_2 := bc3_2 BK1014; have hfz135_0 := bf_ BK1014 0; have hfz135_1 := bf_ BK1014 1; have hfz135_2 := bf_ BK1014 2; have hcz136_0 := bc3_0 BK1009; have hcz136_1 := bc3_1 BK1009; have hcz136_2 := bc3_2 BK1009; have hfz136_0 := bf_ BK1009 0; have hfz136_1 := bf_ BK1009 1; have hfz136_2 := bf_ BK1009 2) | (go_at_call 56; (with_reducible refine (impl_compare.calls kj48 _ _ ((rd_T87 l0_4 (ji83)).f0) _ _ ((rd_T87 l0_4 x82_3).f0) t1015 _ ?side1 ?side2 ?side3 ?side4 A86.out).mono ?_); (case side1 => exact Kd.C_below HR1013_0.out bg_); (case side2 => exact HC1013_0.out); (case side3 => exact Kd.C_below HR1008_0.out bg_); (case side4 => exact HC1008_0.out); rintro e w137 ⟨rfl, hb⟩; replace BK1001 := am_ (blk_below (g := gb1001) (o := .cells #[.int .i64 a0_0, .int .i64 a0_1, .int .i64 a0_2, .slice A0_3 l0_3.length c0_3, .slice (some ad1008) l0_4.length c0_4] 31 (0, 0)) (by (with_reducible repeat (first | refine blk_drewN ?_ _ | refine blk_drew ?_ | refine blk_alloc ?_ _)); refine blk_far ?_ NB1001_1014.out _; (with_reducible repeat (first | refine blk_drewN ?_ _ | refine blk_drew ?_ | refine blk_alloc ?_ _)); refine blk_far ?_ NB1001_1014.out _; (with_reducible repeat (first | refine blk_drewN ?_ _ | refine blk_drew ?_ | refine blk_alloc ?_ _)); refine blk_far ?_ NB1001_1014.out _; (with_reducible repeat (first | refine blk_drewN ?_ _ | refine blk_drew ?_ | refine blk_alloc ?_ _)); exact BK1001.out) hb); replace BK1009 := am_ (blk_below (g := gb1009) (o := .cells #[.slice A1008_0 ((rd_T87 l0_4 x82_3).f0).length c1008_0, .int .i64 ((rd_T87 l0_4 x82_3).f1), .int .i64 ((rd_T87 l0_4 x82_3).f2)] 87 (0, 0)) (by (with_reducible repeat (first | refine blk_drewN ?_ _ | refine blk_drew ?_ | refine blk_alloc ?_ _)); refine blk_far ?_ NB1009_1014.out _; (with_reducible repeat (first | refine blk_drewN ?_ _ | refine blk_drew ?_ | refine blk_alloc ?_ _)); refine blk_far ?_ NB1009_1014.out _; (with_reducible repeat (first | refine blk_drewN ?_ _ | refine blk_drew ?_ | refine blk_alloc ?_ _)); refine blk_far ?_ NB1009_1014.out _; (with_reducible repeat (first | refine blk_drewN ?_ _ | refine blk_drew ?_ | refine blk_alloc ?_ _)); exact BK1009.out) hb); replace BK1014 := am_ (blk_below (g := gb1014) (o := .cells #[.slice A1013_0 ((rd_T87 l0_4 (ji83)).f0).length c1013_0, .int .i64 ((rd_T87 l0_4 (ji83)).f1), .int .i64 ((rd_T87 l0_4 (ji83)).f2)] 87 (0, 0)) (by (with_reducible repeat (first | refine blk_drewN ?_ _ | refine blk_drew ?_ | refine blk_alloc ?_ _)); refine blk_put (cs := #[.slice A1013_0 ((rd_T87 l0_4 (ji83)).f0).length c1013_0, .int .i64 ((rd_T87 l0_4 (ji83)).f1), .int .i64 0]) ?_ 2 _ rfl; (with_reducible repeat (first | refine blk_drewN ?_ _ | refine blk_drew ?_ | refine blk_alloc ?_ _)); refine blk_put (cs := #[.slice A1013_0 ((rd_T87 l0_4 (ji83)).f0).length c1013_0, .int .i64 0, .int .i64 0]) ?_ 1 _ rfl; (with_reducible repeat (first | refine blk_drewN ?_ _ | refine blk_drew ?_ | refine blk_alloc ?_ _)); refine blk_put (cs := #[.slice none 0 0, .int .i64 0, .int .i64 0]) ?_ 0 _ rfl; (with_reducible repeat (first | refine blk_drewN ?_ _ | refine blk_drew ?_ | refine blk_alloc ?_ _)); exact BK1014.out) hb); replace HB := am_ (below_step bg_ hb); (try clear hb); (try clear hb2); (try clear hk); (try clear hi))); try go_wp2)
                     go_roundg kj48
                     case measure => have := HJ1.out; have := HK2.out; have := HK3.out; have := HJ48.out; omega
                     case rel => exact ⟨(wrap64 (x82_3 + 1)), rs_, H', ⟨by have := HJ1.out; have := HK2.out; have := HK3.out; have := HJ48.out; omega⟩, ⟨vk_ BK1001⟩, ⟨bg_⟩⟩
                  ·rw [if_neg c85] at H
                   exact absurd H (by simp)
                 ·rw [if_neg c84] at H
                  exact absurd H (by simp)
               ·replace c77 := Bool.eq_false_iff.mpr c77
                subst c77
                have H1 : (some false) = some r := by rw [if_neg (show ¬ (false = true) by decide)] at H; exact H
                clear H
                have H := H1
                clear H1
                obtain rfl := Option.some.inj H
                have hnb138 := NB1001_1009.out
                have hnc138 := NB1009_1001.out
                have hcz139_0 := bc5_0 BK1001
                have hcz139_1 := bc5_1 BK1001
                have hcz139_2 := bc5_2 BK1001
                have hcz139_3 := bc5_3 BK1001
                have hcz139_4 := bc5_4 BK1001
                have hfz139_0 := bf_ BK1001 0
                have hfz139_1 := bf_ BK1001 1
                have hfz139_2 := bf_ BK1001 2
                have hfz139_3 := bf_ BK1001 3
                have hfz139_4 := bf_ BK1001 4
                have hcz140_0 := bc3_0 BK1009
                have hcz140_1 := bc3_1 BK1009
                have hcz140_2 := bc3_2 BK1009
                have hfz140_0 := bf_ BK1009 0
                have hfz140_1 := bf_ BK1009 1
                have hfz140_2 := bf_ BK1009 2
                go_wp2_with (first | (go_at_call 55; (with_reducible refine (impl_findSeries.calls kj48 _ _ l0_3 _ _ ((rd_T87 l0_4 x82_3).f0) t1011 false _ ?side1 ?side2 ?side3 ?side4 A76.out).mono ?_); (case side1 => exact cc_ (Kd.C_below HR0_3.out HB.out)); (case side2 => exact HC0_3.out); (case side3 => exact cc_ (Kd.C_below HR1008_0.out HB.out)); (case side4 => exact HC1008_0.out); rintro e w141 ⟨rfl, hb⟩; replace BK1001 := am_ (blk_below (g := gb1001) (vk_ BK1001) hb); replace BK1009 := am_ (blk_below (g := gb1009) (vk_ BK1009) hb); replace HB := am_ (below_step bg_ hb); (try clear hb); (try clear hb2); (try clear hk); (try clear hi)))
                repeat (go_quiet (first | (go_at_call 55; (with_reducible refine (impl_findSeries.calls kj48 _ _ l0_3 _ _ ((rd_T87 l0_4 x82_3).f0) t1011 false _ ?side1 ?side2 ?side3 ?side4 A76.out).mono ?_); (case side1 => exact cc_ (Kd.C_below HR0_3.out HB.out)); (case side2 => exact HC0_3.out); (case side3 => exact cc_ (Kd.C_below HR1008_0.out HB.out)); (case side4 => exact HC1008_0.out); rintro e w141 ⟨rfl, hb⟩; replace BK1001 := am_ (blk_below (g := gb1001) (vk_ BK1001) hb); replace BK1009 := am_ (blk_below (g := gb1009) (vk_ BK1009) hb); replace HB := am_ (below_step bg_ hb); (try clear hb); (try clear hb2); (try clear hk); (try clear hi))); try go_wp2)
                go_ret
                exact ⟨rf_, bg_⟩
           ·rw [if_neg c48] at H
            exact absurd H (by simp)
          ·rw [if_neg c47] at H
           exact absurd H (by simp)
         ·rw [if_neg c46] at H
          have c46b0 : decide (x82_3 < (l0_4.length : Int)) = false := decide_eq_false c46
          clear c46
          obtain rfl := Option.some.inj H
          go_wp2
          repeat (go_quiet (fail); try go_wp2)
          go_ret
          exact ⟨rf_, bg_⟩

end Go.Proofs.Ytknlgignjbghkaa.Pr
