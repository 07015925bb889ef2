/- Functions of the given program as plain Lean functions, and that the machine's calls come to them; written by a program of this session; no condition but those that each theorem states. -/
import Derived.Test.YtknlgignjbghkaaPrx0
import Derived.Test.YtknlgignjbghkaaPrxg5da37n1
import Derived.Test.YtknlgignjbghkaaPrxg61164n1
import Derived.Test.YtknlgignjbghkaaPrxgeba1cn1
namespace Go.Proofs.Ytknlgignjbghkaa.Pr
open Go.RowKit Go.Proofs.YtknlgignjbghkaaW.PrintWords Go.Proofs.YtknlgignjbghkaaW.PrintLast Go.Proofs.YtknlgignjbghkaaW.PrintMore
attribute [local go_sem] max2_int min2_int max_two min_two max_three min_three max_four min_four   -- for this text's walks alone
set_option linter.unusedVariables false
set_option linter.unusedSimpArgs false

/-! ### spec_GoodBlock: function 9 -/
mutual
def spec_GoodBlock.j0 : Nat → Bool → Int → Int → Int → List (S83) → List (S87) → Option (Bool)
 | 0, _, _, _, _, _, _ => none
 | k + 1, x46, x1002000, x1002001, x1002002, x1002003, x1002004 => if x46 = true then (some false) else (spec_GoodBlock.l0 k x1002003 (x1002003.length : Int) 0 x1002000 x1002001 x1002002 x1002003 x1002004)
def spec_GoodBlock.l0 : Nat → List (S83) → Int → Int → Int → Int → Int → List (S83) → List (S87) → Option (Bool)
 | 0, _, _, _, _, _, _, _, _ => none
 | k + 1, x48, x49, x50, x1002000, x1002001, x1002002, x1002003, x1002004 => if x50 < x49 then (if 0 ≤ x50 then (if x50 < (x48.length : Int) then (if 0 < (((rd_T83 x48 x50).f1).length : Int) then (if ((rd_T85 ((rd_T83 x48 x50).f1) 0).f0) < x1002000 then (some false) else (if 0 ≤ (wrap64 ((((rd_T83 x48 x50).f1).length : Int) - 1)) then (if (wrap64 ((((rd_T83 x48 x50).f1).length : Int) - 1)) < (((rd_T83 x48 x50).f1).length : Int) then (if ((rd_T85 ((rd_T83 x48 x50).f1) (wrap64 ((((rd_T83 x48 x50).f1).length : Int) - 1))).f0) ≥ x1002001 then (some false) else (spec_GoodBlock.l0 k x48 x49 (wrap64 (x50 + 1)) x1002000 x1002001 x1002002 x1002003 x1002004)) else (none)) else (none))) else (none)) else (none)) else (none)) else (spec_GoodBlock.l1 k x1002004 (x1002004.length : Int) 0 x1002000 x1002001 x1002002 x1002003 x1002004)
def spec_GoodBlock.l1 : Nat → List (S87) → Int → Int → Int → Int → Int → List (S83) → List (S87) → Option (Bool)
 | 0, _, _, _, _, _, _, _, _ => none
 | k + 1, x78, x79, x80, x1002000, x1002001, x1002002, x1002003, x1002004 => if x80 < x79 then (if 0 ≤ x80 then (if x80 < (x78.length : Int) then ((spec_GoodLabels.f k ((rd_T87 x78 x80).f0)).bind fun t1010 => (if t1010 = true then ((spec_l9Has.f k x1002003 ((rd_T87 x78 x80).f0)).bind fun t1011 => (if t1011 = true then (if ((rd_T87 x78 x80).f1) < x1002000 then (spec_GoodBlock.j3 k x80 x78 x79 x80 true x1002000 x1002001 x1002002 x1002003 x1002004 ((rd_T87 x78 x80).f0) ((rd_T87 x78 x80).f1) ((rd_T87 x78 x80).f2)) else (if ((rd_T87 x78 x80).f2) ≥ x1002001 then (spec_GoodBlock.j3 k x80 x78 x79 x80 true x1002000 x1002001 x1002002 x1002003 x1002004 ((rd_T87 x78 x80).f0) ((rd_T87 x78 x80).f1) ((rd_T87 x78 x80).f2)) else (spec_GoodBlock.j3 k x80 x78 x79 x80 (decide (((rd_T87 x78 x80).f1) > ((rd_T87 x78 x80).f2))) x1002000 x1002001 x1002002 x1002003 x1002004 ((rd_T87 x78 x80).f0) ((rd_T87 x78 x80).f1) ((rd_T87 x78 x80).f2)))) else (spec_GoodBlock.j3 k x80 x78 x79 x80 true x1002000 x1002001 x1002002 x1002003 x1002004 ((rd_T87 x78 x80).f0) ((rd_T87 x78 x80).f1) ((rd_T87 x78 x80).f2)))) else (spec_GoodBlock.j3 k x80 x78 x79 x80 true x1002000 x1002001 x1002002 x1002003 x1002004 ((rd_T87 x78 x80).f0) ((rd_T87 x78 x80).f1) ((rd_T87 x78 x80).f2)))) else (none)) else (none)) else (some true)
def spec_GoodBlock.j3 : Nat → Int → List (S87) → Int → Int → Bool → Int → Int → Int → List (S83) → List (S87) → List (S108) → Int → Int → Option (Bool)
 | 0, _, _, _, _, _, _, _, _, _, _, _, _, _ => none
 | k + 1, x5, x78, x79, x80, x117, x1002000, x1002001, x1002002, x1002003, x1002004, x1010000, x1010001, x1010002 => if x117 = true then (some false) else (if x5 = 0 then (spec_GoodBlock.l1 k x78 x79 (wrap64 (x80 + 1)) x1002000 x1002001 x1002002 x1002003 x1002004) else (if 0 ≤ (wrap64 (x5 - 1)) then (if (wrap64 (x5 - 1)) < (x1002004.length : Int) then ((spec_l2Cmp.f k ((rd_T87 x1002004 (wrap64 (x5 - 1))).f0) x1010000).bind fun t1014 => (if t1014 > 0 then (some false) else (if t1014 = 0 then (if x1010001 ≤ (wrap64 (((rd_T87 x1002004 (wrap64 (x5 - 1))).f2) + 1)) then (some false) else (spec_GoodBlock.l1 k x78 x79 (wrap64 (x80 + 1)) x1002000 x1002001 x1002002 x1002003 x1002004)) else (spec_GoodBlock.l1 k x78 x79 (wrap64 (x80 + 1)) x1002000 x1002001 x1002002 x1002003 x1002004)))) else (none)) else (none)))
end
def spec_GoodBlock.f (k : Nat) (a0_0 : Int) (a0_1 : Int) (a0_2 : Int) (l0_3 : List (S83)) (l0_4 : List (S87)) : Option (Bool) := (spec_l3Time.f a0_0).bind fun t1002 => (if t1002 = true then (if a0_1 ≤ a0_0 then (spec_GoodBlock.j0 k true a0_0 a0_1 a0_2 l0_3 l0_4) else (if a0_1 > 1000000000001 then (spec_GoodBlock.j0 k true a0_0 a0_1 a0_2 l0_3 l0_4) else (if a0_2 < 1 then (spec_GoodBlock.j0 k true a0_0 a0_1 a0_2 l0_3 l0_4) else (if a0_2 > 9 then (spec_GoodBlock.j0 k true a0_0 a0_1 a0_2 l0_3 l0_4) else ((spec_GoodSeries.f k l0_3).bind fun t1003 => (if t1003 = true then (spec_GoodBlock.j0 k (decide ((l0_4.length : Int) > 100)) a0_0 a0_1 a0_2 l0_3 l0_4) else (spec_GoodBlock.j0 k true a0_0 a0_1 a0_2 l0_3 l0_4))))))) else (spec_GoodBlock.j0 k true a0_0 a0_1 a0_2 l0_3 l0_4))
theorem spec_GoodBlock.mono_l : ∀ k, (∀ y0 y1 y2 y3 y4 y5, LeO (spec_GoodBlock.j0 k y0 y1 y2 y3 y4 y5) (spec_GoodBlock.j0 (k + 1) y0 y1 y2 y3 y4 y5)) ∧ (∀ y0 y1 y2 y3 y4 y5 y6 y7, LeO (spec_GoodBlock.l0 k y0 y1 y2 y3 y4 y5 y6 y7) (spec_GoodBlock.l0 (k + 1) y0 y1 y2 y3 y4 y5 y6 y7)) ∧ (∀ y0 y1 y2 y3 y4 y5 y6 y7, LeO (spec_GoodBlock.l1 k y0 y1 y2 y3 y4 y5 y6 y7) (spec_GoodBlock.l1 (k + 1) y0 y1 y2 y3 y4 y5 y6 y7)) ∧ (∀ y0 y1 y2 y3 y4 y5 y6 y7 y8 y9 y10 y11 y12, LeO (spec_GoodBlock.j3 k y0 y1 y2 y3 y4 y5 y6 y7 y8 y9 y10 y11 y12) (spec_GoodBlock.j3 (k + 1) y0 y1 y2 y3 y4 y5 y6 y7 y8 y9 y10 y11 y12))
 | 0 => ⟨fun _ _ _ _ _ _ r h => by simp [spec_GoodBlock.j0] at h, fun _ _ _ _ _ _ _ _ r h => by simp [spec_GoodBlock.l0] at h, fun _ _ _ _ _ _ _ _ r h => by simp [spec_GoodBlock.l1] at h, fun _ _ _ _ _ _ _ _ _ _ _ _ _ r h => by simp [spec_GoodBlock.j3] at h⟩
 | k + 1 => by
  obtain ⟨ih0, ih1, ih2, ih3⟩ := spec_GoodBlock.mono_l k
  refine ⟨?_, ?_, ?_, ?_⟩
  ·intro y0 y1 y2 y3 y4 y5
   unfold spec_GoodBlock.j0
   repeat' first
   | with_reducible first | exact ih0 _ _ _ _ _ _ | exact ih1 _ _ _ _ _ _ _ _ | exact ih2 _ _ _ _ _ _ _ _ | exact ih3 _ _ _ _ _ _ _ _ _ _ _ _ _ | exact spec_GoodLabels.mono _ _ | exact spec_GoodSeries.mono _ _ | exact spec_l2Cmp.mono _ _ _ | exact spec_l9Has.mono _ _ _ | exact LeO.refl _ | exact LeO.none _ | refine LeO.ite ?_ ?_ | refine LeO.bind ?_ (fun _ => ?_)
   | exact ih0 _ _ _ _ _ _
   | exact ih1 _ _ _ _ _ _ _ _
   | exact ih2 _ _ _ _ _ _ _ _
   | exact ih3 _ _ _ _ _ _ _ _ _ _ _ _ _
   | exact spec_GoodLabels.mono _ _
   | exact spec_GoodSeries.mono _ _
   | exact spec_l2Cmp.mono _ _ _
   | exact spec_l9Has.mono _ _ _
   | exact LeO.none _
   | refine LeO.ite ?_ ?_
   | refine LeO.bind ?_ (fun _ => ?_)
  ·intro y0 y1 y2 y3 y4 y5 y6 y7
   unfold spec_GoodBlock.l0
   repeat' first
   | with_reducible first | exact ih0 _ _ _ _ _ _ | exact ih1 _ _ _ _ _ _ _ _ | exact ih2 _ _ _ _ _ _ _ _ | exact ih3 _ _ _ _ _ _ _ _ _ _ _ _ _ | exact spec_GoodLabels.mono _ _ | exact spec_GoodSeries.mono _ _ | exact spec_l2Cmp.mono _ _ _ | exact spec_l9Has.mono _ _ _ | exact LeO.refl _ | exact LeO.none _ | refine LeO.ite ?_ ?_ | refine LeO.bind ?_ (fun _ => ?_)
   | exact ih0 _ _ _ _ _ _
   | exact ih1 _ _ _ _ _ _ _ _
   | exact ih2 _ _ _ _ _ _ _ _
   | exact ih3 _ _ _ _ _ _ _ _ _ _ _ _ _
   | exact spec_GoodLabels.mono _ _
   | exact spec_GoodSeries.mono _ _
   | exact spec_l2Cmp.mono _ _ _
   | exact spec_l9Has.mono _ _ _
   | exact LeO.none _
   | refine LeO.ite ?_ ?_
   | refine LeO.bind ?_ (fun _ => ?_)
  ·intro y0 y1 y2 y3 y4 y5 y6 y7
   unfold spec_GoodBlock.l1
   repeat' first
   | with_reducible first | exact ih0 _ _ _ _ _ _ | exact ih1 _ _ _ _ _ _ _ _ | exact ih2 _ _ _ _ _ _ _ _ | exact ih3 _ _ _ _ _ _ _ _ _ _ _ _ _ | exact spec_GoodLabels.mono _ _ | exact spec_GoodSeries.mono _ _ | exact spec_l2Cmp.mono _ _ _ | exact spec_l9Has.mono _ _ _ | exact LeO.refl _ | exact LeO.none _ | refine LeO.ite ?_ ?_ | refine LeO.bind ?_ (fun _ => ?_)
   | exact ih0 _ _ _ _ _ _
   | exact ih1 _ _ _ _ _ _ _ _
   | exact ih2 _ _ _ _ _ _ _ _
   | exact ih3 _ _ _ _ _ _ _ _ _ _ _ _ _
   | exact spec_GoodLabels.mono _ _
   | exact spec_GoodSeries.mono _ _
   | exact spec_l2Cmp.mono _ _ _
   | exact spec_l9Has.mono _ _ _
   | exact LeO.none _
   | refine LeO.ite ?_ ?_
   | refine LeO.bind ?_ (fun _ => ?_)
  ·intro y0 y1 y2 y3 y4 y5 y6 y7 y8 y9 y10 y11 y12
   unfold spec_GoodBlock.j3
   repeat' first
   | with_reducible first | exact ih0 _ _ _ _ _ _ | exact ih1 _ _ _ _ _ _ _ _ | exact ih2 _ _ _ _ _ _ _ _ | exact ih3 _ _ _ _ _ _ _ _ _ _ _ _ _ | exact spec_GoodLabels.mono _ _ | exact spec_GoodSeries.mono _ _ | exact spec_l2Cmp.mono _ _ _ | exact spec_l9Has.mono _ _ _ | exact LeO.refl _ | exact LeO.none _ | refine LeO.ite ?_ ?_ | refine LeO.bind ?_ (fun _ => ?_)
   | exact ih0 _ _ _ _ _ _
   | exact ih1 _ _ _ _ _ _ _ _
   | exact ih2 _ _ _ _ _ _ _ _
   | exact ih3 _ _ _ _ _ _ _ _ _ _ _ _ _
   | exact spec_GoodLabels.mono _ _
   | exact spec_GoodSeries.mono _ _
   | exact spec_l2Cmp.mono _ _ _
   | exact spec_l9Has.mono _ _ _
   | exact LeO.none _
   | refine LeO.ite ?_ ?_
   | refine LeO.bind ?_ (fun _ => ?_)
theorem spec_GoodBlock.mono : ∀ a0 a1 a2 a3 a4 k, LeO (spec_GoodBlock.f k a0 a1 a2 a3 a4) (spec_GoodBlock.f (k + 1) a0 a1 a2 a3 a4) := by
 intro a0 a1 a2 a3 a4 k
 obtain ⟨ih0, ih1, ih2, ih3⟩ := spec_GoodBlock.mono_l k
 unfold spec_GoodBlock.f
 repeat' first
   | with_reducible first | exact ih0 _ _ _ _ _ _ | exact ih1 _ _ _ _ _ _ _ _ | exact ih2 _ _ _ _ _ _ _ _ | exact ih3 _ _ _ _ _ _ _ _ _ _ _ _ _ | exact spec_GoodLabels.mono _ _ | exact spec_GoodSeries.mono _ _ | exact spec_l2Cmp.mono _ _ _ | exact spec_l9Has.mono _ _ _ | exact LeO.refl _ | exact LeO.none _ | refine LeO.ite ?_ ?_ | refine LeO.bind ?_ (fun _ => ?_)
   | exact ih0 _ _ _ _ _ _
   | exact ih1 _ _ _ _ _ _ _ _
   | exact ih2 _ _ _ _ _ _ _ _
   | exact ih3 _ _ _ _ _ _ _ _ _ _ _ _ _
   | exact spec_GoodLabels.mono _ _
   | exact spec_GoodSeries.mono _ _
   | exact spec_l2Cmp.mono _ _ _
   | exact spec_l9Has.mono _ _ _
   | exact LeO.none _
   | refine LeO.ite ?_ ?_
   | refine LeO.bind ?_ (fun _ => ?_)
set_option maxHeartbeats 8000000 in
set_option maxRecDepth 100000 in
theorem spec_GoodBlock.calls (k : Nat) (a0_0 : Int) (a0_1 : Int) (a0_2 : Int) (A0_3 : Option Addr) (c0_3 : Nat) (l0_3 : List (S83)) (A0_4 : Option Addr) (c0_4 : Nat) (l0_4 : List (S87)) (r : Bool) (w : World) (hr0_3 : Kd.C k83 w A0_3 l0_3.length l0_3) (hc0_3 : l0_3.length ≤ c0_3) (hr0_4 : Kd.C k87 w A0_4 l0_4.length l0_4) (hc0_4 : l0_4.length ≤ c0_4) (h : spec_GoodBlock.f k a0_0 a0_1 a0_2 l0_3 l0_4 = some r) :
  Calls Try.prog 9 #[.agg #[.int .i64 a0_0, .int .i64 a0_1, .int .i64 a0_2, .slice A0_3 l0_3.length c0_3, .slice A0_4 l0_4.length c0_4]] w fun e w' => e = .returned (.bool r) ∧ Below w.heap.size w w' := by
 have hu31 := Try.underlying31
 have hu83 := Try.underlying83
 have hu87 := Try.underlying87
 have HR0_3 := am_ hr0_3
 have HC0_3 := am_ hc0_3
 clear hr0_3 hc0_3
 have HR0_4 := am_ hr0_4
 have HC0_4 := am_ hc0_4
 clear hr0_4 hc0_4
 have HB := am_ (Below.refl w.heap.size w)
 have H : ((spec_l3Time.f a0_0).bind fun t1002 => (if t1002 = true then (if a0_1 ≤ a0_0 then (spec_GoodBlock.j0 k true a0_0 a0_1 a0_2 l0_3 l0_4) else (if a0_1 > 1000000000001 then (spec_GoodBlock.j0 k true a0_0 a0_1 a0_2 l0_3 l0_4) else (if a0_2 < 1 then (spec_GoodBlock.j0 k true a0_0 a0_1 a0_2 l0_3 l0_4) else (if a0_2 > 9 then (spec_GoodBlock.j0 k true a0_0 a0_1 a0_2 l0_3 l0_4) else ((spec_GoodSeries.f k l0_3).bind fun t1003 => (if t1003 = true then (spec_GoodBlock.j0 k (decide ((l0_4.length : Int) > 100)) a0_0 a0_1 a0_2 l0_3 l0_4) else (spec_GoodBlock.j0 k true a0_0 a0_1 a0_2 l0_3 l0_4))))))) else (spec_GoodBlock.j0 k true a0_0 a0_1 a0_2 l0_3 l0_4))) = some r := h
 clear h
 have HC2 := am_ H
 clear H
 go_enter Try.func9, Try.ntmps9
 go_upto_region 1 with (first | ((with_reducible refine gate_dst (N := 1) rfl ?_); (try (refine gate_guard (by rfl) ?_; dsimp only)); refine bx_ 1 #[.int .i64 a0_0, .int .i64 a0_1, .int .i64 a0_2, .slice A0_3 l0_3.length c0_3, .slice A0_4 l0_4.length c0_4] 31 ?_; intro gb1001 hg w3 hbox hb; have BK1001 := am_ (hbox); have GW1001 := am_ (gs_ hg : w.heap.size ≤ gb1001); replace HB := am_ (below_step bl_ hb); have GE1001 := GW1001; clear hb hbox hg))
 repeat (go_quiet (first | ((with_reducible refine gate_dst (N := 1) rfl ?_); (try (refine gate_guard (by rfl) ?_; dsimp only)); refine bx_ 1 #[.int .i64 a0_0, .int .i64 a0_1, .int .i64 a0_2, .slice A0_3 l0_3.length c0_3, .slice A0_4 l0_4.length c0_4] 31 ?_; intro gb1001 hg w3 hbox hb; have BK1001 := am_ (hbox); have GW1001 := am_ (gs_ hg : w.heap.size ≤ gb1001); replace HB := am_ (below_step bl_ hb); have GE1001 := GW1001; clear hb hbox hg)); go_upto_region 1 with (first | ((with_reducible refine gate_dst (N := 1) rfl ?_); (try (refine gate_guard (by rfl) ?_; dsimp only)); refine bx_ 1 #[.int .i64 a0_0, .int .i64 a0_1, .int .i64 a0_2, .slice A0_3 l0_3.length c0_3, .slice A0_4 l0_4.length c0_4] 31 ?_; intro gb1001 hg w3 hbox hb; have BK1001 := am_ (hbox); have GW1001 := am_ (gs_ hg : w.heap.size ≤ gb1001); replace HB := am_ (below_step bl_ hb); have GE1001 := GW1001; clear hb hbox hg)))
 (try simp only [Act.put, List.setIfInBounds_toArray, List.set_cons_zero, List.set_cons_succ])
 go_cut [46] (fun v46 wc => ∃ (kq : Nat) (x46_1 : Bool), v46 = .bool x46_1 ∧ Aside0 (spec_GoodBlock.j0 kq x46_1 a0_0 a0_1 a0_2 l0_3 l0_4 = some r) ∧ Aside0 (kq ≤ k) ∧ Aside0 (wc.heap[gb1001]? = some (.cells #[.int .i64 a0_0, .int .i64 a0_1, .int .i64 a0_2, (.slice A0_3 l0_3.length c0_3), (.slice A0_4 l0_4.length c0_4)] 31 (0, 0))) ∧ Aside0 (Below w.heap.size w wc))
 case first =>
  have H := HC2.out
  clear HC2
  replace H := Option.bind_eq_some_iff.mp H
  obtain ⟨t1002, A40, H⟩ := H
  replace H : (if t1002 = true then (if a0_1 ≤ a0_0 then (spec_GoodBlock.j0 k true a0_0 a0_1 a0_2 l0_3 l0_4) else (if a0_1 > 1000000000001 then (spec_GoodBlock.j0 k true a0_0 a0_1 a0_2 l0_3 l0_4) else (if a0_2 < 1 then (spec_GoodBlock.j0 k true a0_0 a0_1 a0_2 l0_3 l0_4) else (if a0_2 > 9 then (spec_GoodBlock.j0 k true a0_0 a0_1 a0_2 l0_3 l0_4) else ((spec_GoodSeries.f k l0_3).bind fun t1003 => (if t1003 = true then (spec_GoodBlock.j0 k (decide ((l0_4.length : Int) > 100)) a0_0 a0_1 a0_2 l0_3 l0_4) else (spec_GoodBlock.j0 k true a0_0 a0_1 a0_2 l0_3 l0_4))))))) else (spec_GoodBlock.j0 k true a0_0 a0_1 a0_2 l0_3 l0_4)) = some r := H
  have A4 := am_ A40
  clear A40
  by_cases c5 : t1002 = true
  ·subst c5
   have H1 : (if a0_1 ≤ a0_0 then (spec_GoodBlock.j0 k true a0_0 a0_1 a0_2 l0_3 l0_4) else (if a0_1 > 1000000000001 then (spec_GoodBlock.j0 k true a0_0 a0_1 a0_2 l0_3 l0_4) else (if a0_2 < 1 then (spec_GoodBlock.j0 k true a0_0 a0_1 a0_2 l0_3 l0_4) else (if a0_2 > 9 then (spec_GoodBlock.j0 k true a0_0 a0_1 a0_2 l0_3 l0_4) else ((spec_GoodSeries.f k l0_3).bind fun t1003 => (if t1003 = true then (spec_GoodBlock.j0 k (decide ((l0_4.length : Int) > 100)) a0_0 a0_1 a0_2 l0_3 l0_4) else (spec_GoodBlock.j0 k true a0_0 a0_1 a0_2 l0_3 l0_4))))))) = some r := by rw [if_pos rfl] at H; exact H
   clear H
   have H := H1
   clear H1
   by_cases c6 : a0_1 ≤ a0_0
   ·rw [if_pos c6] at H
    have c6b0 : decide (a0_1 ≤ a0_0) = true := decide_eq_true c6
    clear c6
    (first | rw [c6b0] | (simp only [i64_w, i32_w]; rw [c6b0]) | skip)
    have H' := am_ H
    clear H
    have hcz7_0 := bc5_0 BK1001
    have hcz7_1 := bc5_1 BK1001
    have hcz7_2 := bc5_2 BK1001
    have hcz7_3 := bc5_3 BK1001
    have hcz7_4 := bc5_4 BK1001
    have hfz7_0 := bf_ BK1001 0
    have hfz7_1 := bf_ BK1001 1
    have hfz7_2 := bf_ BK1001 2
    have hfz7_3 := bf_ BK1001 3
    have hfz7_4 := bf_ BK1001 4
    go_wp2_with (first | (go_at_call 46; (with_reducible refine (spec_l3Time.calls a0_0 true _ A4.out).mono ?_); rintro e w' ⟨rfl, ⟨nd, rfl⟩⟩; (try exact dd_)))
    repeat (go_quiet (first | (go_at_call 46; (with_reducible refine (spec_l3Time.calls a0_0 true _ A4.out).mono ?_); rintro e w' ⟨rfl, ⟨nd, rfl⟩⟩; (try exact dd_))); try go_wp2)
    go_meet
    case rel => exact ⟨_, (true), rs_, H', ⟨by first | omega | exact Nat.le_refl _⟩, ⟨vk_ BK1001⟩, ⟨bg_⟩⟩
   ·rw [if_neg c6] at H
    have c6b0 : decide (a0_1 ≤ a0_0) = false := decide_eq_false c6
    clear c6
    (first | rw [c6b0] | (simp only [i64_w, i32_w]; rw [c6b0]) | skip)
    by_cases c8 : a0_1 > 1000000000001
    ·rw [if_pos c8] at H
     have c8b0 : decide (1000000000001 < a0_1) = true := decide_eq_true c8
     clear c8
     have H' := am_ H
     clear H
     have hcz9_0 := bc5_0 BK1001
     have hcz9_1 := bc5_1 BK1001
     have hcz9_2 := bc5_2 BK1001
     have hcz9_3 := bc5_3 BK1001
     have hcz9_4 := bc5_4 BK1001
     have hfz9_0 := bf_ BK1001 0
     have hfz9_1 := bf_ BK1001 1
     have hfz9_2 := bf_ BK1001 2
     have hfz9_3 := bf_ BK1001 3
     have hfz9_4 := bf_ BK1001 4
     go_wp2_with (first | (go_at_call 46; (with_reducible refine (spec_l3Time.calls a0_0 true _ A4.out).mono ?_); rintro e w' ⟨rfl, ⟨nd, rfl⟩⟩; (try exact dd_)))
     repeat (go_quiet (first | (go_at_call 46; (with_reducible refine (spec_l3Time.calls a0_0 true _ A4.out).mono ?_); rintro e w' ⟨rfl, ⟨nd, rfl⟩⟩; (try exact dd_))); try go_wp2)
     go_meet
     case rel => exact ⟨_, (true), rs_, H', ⟨by first | omega | exact Nat.le_refl _⟩, ⟨vk_ BK1001⟩, ⟨bg_⟩⟩
    ·rw [if_neg c8] at H
     have c8b0 : decide (1000000000001 < a0_1) = false := decide_eq_false c8
     clear c8
     by_cases c10 : a0_2 < 1
     ·rw [if_pos c10] at H
      have c10b0 : decide (a0_2 < 1) = true := decide_eq_true c10
      clear c10
      have H' := am_ H
      clear H
      have hcz11_0 := bc5_0 BK1001
      have hcz11_1 := bc5_1 BK1001
      have hcz11_2 := bc5_2 BK1001
      have hcz11_3 := bc5_3 BK1001
      have hcz11_4 := bc5_4 BK1001
      have hfz11_0 := bf_ BK1001 0
      have hfz11_1 := bf_ BK1001 1
      have hfz11_2 := bf_ BK1001 2
      have hfz11_3 := bf_ BK1001 3
      have hfz11_4 := bf_ BK1001 4
      go_wp2_with (first | (go_at_call 46; (with_reducible refine (spec_l3Time.calls a0_0 true _ A4.out).mono ?_); rintro e w' ⟨rfl, ⟨nd, rfl⟩⟩; (try exact dd_)))
      repeat (go_quiet (first | (go_at_call 46; (with_reducible refine (spec_l3Time.calls a0_0 true _ A4.out).mono ?_); rintro e w' ⟨rfl, ⟨nd, rfl⟩⟩; (try exact dd_))); try go_wp2)
      go_meet
      case rel => exact ⟨_, (true), rs_, H', ⟨by first | omega | exact Nat.le_refl _⟩, ⟨vk_ BK1001⟩, ⟨bg_⟩⟩
     ·rw [if_neg c10] at H
      have c10b0 : decide (a0_2 < 1) = false := decide_eq_false c10
      clear c10
      by_cases c12 : a0_2 > 9
      ·rw [if_pos c12] at H
       have c12b0 : decide (9 < a0_2) = true := decide_eq_true c12
       clear c12
       have H' := am_ H
       clear H
       have hcz13_0 := bc5_0 BK1001
       have hcz13_1 := bc5_1 BK1001
       have hcz13_2 := bc5_2 BK1001
       have hcz13_3 := bc5_3 BK1001
       have hcz13_4 := bc5_4 BK1001
       have hfz13_0 := bf_ BK1001 0
       have hfz13_1 := bf_ BK1001 1
       have hfz13_2 := bf_ BK1001 2
       have hfz13_3 := bf_ BK1001 3
       have hfz13_4 := bf_ BK1001 4
       go_wp2_with (first | (go_at_call 46; (with_reducible refine (spec_l3Time.calls a0_0 true _ A4.out).mono ?_); rintro e w' ⟨rfl, ⟨nd, rfl⟩⟩; (try exact dd_)))
       repeat (go_quiet (first | (go_at_call 46; (with_reducible refine (spec_l3Time.calls a0_0 true _ A4.out).mono ?_); rintro e w' ⟨rfl, ⟨nd, rfl⟩⟩; (try exact dd_))); try go_wp2)
       go_meet
       case rel => exact ⟨_, (true), rs_, H', ⟨by first | omega | exact Nat.le_refl _⟩, ⟨vk_ BK1001⟩, ⟨bg_⟩⟩
      ·rw [if_neg c12] at H
       have c12b0 : decide (9 < a0_2) = false := decide_eq_false c12
       clear c12
       replace H := Option.bind_eq_some_iff.mp H
       obtain ⟨t1003, A140, H⟩ := H
       replace H : (if t1003 = true then (spec_GoodBlock.j0 k (decide ((l0_4.length : Int) > 100)) a0_0 a0_1 a0_2 l0_3 l0_4) else (spec_GoodBlock.j0 k true a0_0 a0_1 a0_2 l0_3 l0_4)) = some r := H
       have A14 := am_ A140
       clear A140
       by_cases c15 : t1003 = true
       ·subst c15
        have H1 : (spec_GoodBlock.j0 k (decide ((l0_4.length : Int) > 100)) a0_0 a0_1 a0_2 l0_3 l0_4) = some r := by rw [if_pos rfl] at H; exact H
        clear H
        have H := H1
        clear H1
        have H' := am_ H
        clear H
        have hcz16_0 := bc5_0 BK1001
        have hcz16_1 := bc5_1 BK1001
        have hcz16_2 := bc5_2 BK1001
        have hcz16_3 := bc5_3 BK1001
        have hcz16_4 := bc5_4 BK1001
        have hfz16_0 := bf_ BK1001 0
        have hfz16_1 := bf_ BK1001 1
        have hfz16_2 := bf_ BK1001 2
        have hfz16_3 := bf_ BK1001 3
        have hfz16_4 := bf_ BK1001 4
        go_wp2_with (first | (go_at_call 46; (with_reducible refine (spec_l3Time.calls a0_0 true _ A4.out).mono ?_); rintro e w' ⟨rfl, ⟨nd, rfl⟩⟩; (try exact dd_)) | (go_at_call 47; (with_reducible refine (spec_GoodSeries.calls k _ _ l0_3 true _ ?side1 ?side2 A14.out).mono ?_); (case side1 => exact cc_ (Kd.C_below HR0_3.out bg_)); (case side2 => exact HC0_3.out); rintro e w17 ⟨rfl, hb⟩; replace BK1001 := am_ (blk_below (g := gb1001) (vk_ BK1001) hb); replace HB := am_ (below_step bg_ hb); (try clear hb); (try clear hb2); (try clear hk); (try clear hi); have hcz18_0 := bc5_0 BK1001; have hcz18_1 := bc5_1 BK1001; have hcz18_2 := bc5_2 BK1001; have hcz18_3 := bc5_3 BK1001; have hcz18_4 := bc5_4 BK1001; have hfz18_0 := bf_ BK1001 0; have hfz18_1 := bf_ BK1001 1; have hfz18_2 := bf_ BK1001 2; have hfz18_3 := bf_ BK1001 3; have hfz18_4 := bf_ BK1001 4))
        repeat (go_quiet (first | (go_at_call 46; (with_reducible refine (spec_l3Time.calls a0_0 true _ A4.out).mono ?_); rintro e w' ⟨rfl, ⟨nd, rfl⟩⟩; (try exact dd_)) | (go_at_call 47; (with_reducible refine (spec_GoodSeries.calls k _ _ l0_3 true _ ?side1 ?side2 A14.out).mono ?_); (case side1 => exact cc_ (Kd.C_below HR0_3.out bg_)); (case side2 => exact HC0_3.out); rintro e w17 ⟨rfl, hb⟩; replace BK1001 := am_ (blk_below (g := gb1001) (vk_ BK1001) hb); replace HB := am_ (below_step bg_ hb); (try clear hb); (try clear hb2); (try clear hk); (try clear hi); have hcz18_0 := bc5_0 BK1001; have hcz18_1 := bc5_1 BK1001; have hcz18_2 := bc5_2 BK1001; have hcz18_3 := bc5_3 BK1001; have hcz18_4 := bc5_4 BK1001; have hfz18_0 := bf_ BK1001 0; have hfz18_1 := bf_ BK1001 1; have hfz18_2 := bf_ BK1001 2; have hfz18_3 := bf_ BK1001 3; have hfz18_4 := bf_ BK1001 4)); try go_wp2)
        go_meet
        case rel => exact ⟨_, (decide ((l0_4.length : Int) > 100)), rs_, H', ⟨by first | omega | exact Nat.le_refl _⟩, ⟨vk_ BK1001⟩, ⟨bg_⟩⟩
       ·replace c15 := Bool.eq_false_iff.mpr c15
        subst c15
        have H1 : (spec_GoodBlock.j0 k true a0_0 a0_1 a0_2 l0_3 l0_4) = some r := by rw [if_neg (show ¬ (false = true) by decide)] at H; exact H
        clear H
        have H := H1
        clear H1
        have H' := am_ H
        clear H
        have hcz19_0 := bc5_0 BK1001
        have hcz19_1 := bc5_1 BK1001
        have hcz19_2 := bc5_2 BK1001
        have hcz19_3 := bc5_3 BK1001
        have hcz19_4 := bc5_4 BK1001
        have hfz19_0 := bf_ BK1001 0
        have hfz19_1 := bf_ BK1001 1
        have hfz19_2 := bf_ BK1001 2
        have hfz19_3 := bf_ BK1001 3
        have hfz19_4 := bf_ BK1001 4
        go_wp2_with (first | (go_at_call 46; (with_reducible refine (spec_l3Time.calls a0_0 true _ A4.out).mono ?_); rintro e w' ⟨rfl, ⟨nd, rfl⟩⟩; (try exact dd_)) | (go_at_call 47; (with_reducible refine (spec_GoodSeries.calls k _ _ l0_3 false _ ?side1 ?side2 A14.out).mono ?_); (case side1 => exact cc_ (Kd.C_below HR0_3.out bg_)); (case side2 => exact HC0_3.out); rintro e w20 ⟨rfl, hb⟩; replace BK1001 := am_ (blk_below (g := gb1001) (vk_ BK1001) hb); replace HB := am_ (below_step bg_ hb); (try clear hb); (try clear hb2); (try clear hk); (try clear hi)))
        repeat (go_quiet (first | (go_at_call 46; (with_reducible refine (spec_l3Time.calls a0_0 true _ A4.out).mono ?_); rintro e w' ⟨rfl, ⟨nd, rfl⟩⟩; (try exact dd_)) | (go_at_call 47; (with_reducible refine (spec_GoodSeries.calls k _ _ l0_3 false _ ?side1 ?side2 A14.out).mono ?_); (case side1 => exact cc_ (Kd.C_below HR0_3.out bg_)); (case side2 => exact HC0_3.out); rintro e w20 ⟨rfl, hb⟩; replace BK1001 := am_ (blk_below (g := gb1001) (vk_ BK1001) hb); replace HB := am_ (below_step bg_ hb); (try clear hb); (try clear hb2); (try clear hk); (try clear hi))); try go_wp2)
        go_meet
        case rel => exact ⟨_, (true), rs_, H', ⟨by first | omega | exact Nat.le_refl _⟩, ⟨vk_ BK1001⟩, ⟨bg_⟩⟩
  ·replace c5 := Bool.eq_false_iff.mpr c5
   subst c5
   have H1 : (spec_GoodBlock.j0 k true a0_0 a0_1 a0_2 l0_3 l0_4) = some r := by rw [if_neg (show ¬ (false = true) by decide)] at H; exact H
   clear H
   have H := H1
   clear H1
   have H' := am_ H
   clear H
   have hcz21_0 := bc5_0 BK1001
   have hcz21_1 := bc5_1 BK1001
   have hcz21_2 := bc5_2 BK1001
   have hcz21_3 := bc5_3 BK1001
   have hcz21_4 := bc5_4 BK1001
   have hfz21_0 := bf_ BK1001 0
   have hfz21_1 := bf_ BK1001 1
   have hfz21_2 := bf_ BK1001 2
   have hfz21_3 := bf_ BK1001 3
   have hfz21_4 := bf_ BK1001 4
   go_wp2_with (first | (go_at_call 46; (with_reducible refine (spec_l3Time.calls a0_0 false _ A4.out).mono ?_); rintro e w' ⟨rfl, ⟨nd, rfl⟩⟩; (try exact dd_)))
   repeat (go_quiet (first | (go_at_call 46; (with_reducible refine (spec_l3Time.calls a0_0 false _ A4.out).mono ?_); rintro e w' ⟨rfl, ⟨nd, rfl⟩⟩; (try exact dd_))); try go_wp2)
   go_meet
   case rel => exact ⟨_, (true), rs_, H', ⟨by first | omega | exact Nat.le_refl _⟩, ⟨vk_ BK1001⟩, ⟨bg_⟩⟩
 case rest =>
  clear HC2
  try clear c1
  try clear p2
  try clear c5
  try clear c6
  try clear c6b0
  try clear c8
  try clear c8b0
  try clear c9
  try clear c10
  try clear c10b0
  try clear c12
  try clear c12b0
  try clear c15
  try clear hcz11_0
  try clear hcz11_1
  try clear hcz11_2
  try clear hcz11_3
  try clear hcz11_4
  try clear hcz13_0
  try clear hcz13_1
  try clear hcz13_2
  try clear hcz13_3
  try clear hcz13_4
  try clear hcz16_0
  try clear hcz16_1
  try clear hcz16_2
  try clear hcz16_3
  try clear hcz16_4
  try clear hcz18_0
  try clear hcz18_1
  try clear hcz18_2
  try clear hcz18_3
  try clear hcz18_4
  try clear hcz19_0
  try clear hcz19_1
  try clear hcz19_2
  try clear hcz19_3
  try clear hcz19_4
  try clear hcz21_0
  try clear hcz21_1
  try clear hcz21_2
  try clear hcz21_3
  try clear hcz21_4
  try clear hcz7_0
  try clear hcz7_1
  try clear hcz7_2
  try clear hcz7_3
  try clear hcz7_4
  try clear hcz9_0
  try clear hcz9_1
  try clear hcz9_2
  try clear hcz9_3
  try clear hcz9_4
  try clear hfz11_0
  try clear hfz11_1
  try clear hfz11_2
  try clear hfz11_3
  try clear hfz11_4
  try clear hfz13_0
  try clear hfz13_1
  try clear hfz13_2
  try clear hfz13_3
  try clear hfz13_4
  try clear hfz16_0
  try clear hfz16_1
  try clear hfz16_2
  try clear hfz16_3
  try clear hfz16_4
  try clear hfz18_0
  try clear hfz18_1
  try clear hfz18_2
  try clear hfz18_3
  try clear hfz18_4
  try clear hfz19_0
  try clear hfz19_1
  try clear hfz19_2
  try clear hfz19_3
  try clear hfz19_4
  try clear hfz21_0
  try clear hfz21_1
  try clear hfz21_2
  try clear hfz21_3
  try clear hfz21_4
  try clear hfz7_0
  try clear hfz7_1
  try clear hfz7_2
  try clear hfz7_3
  try clear hfz7_4
  try clear hfz9_0
  try clear hfz9_1
  try clear hfz9_2
  try clear hfz9_3
  try clear hfz9_4
  obtain ⟨kq, x46_1, rfl, HA, HJ1, BK1001, HB⟩ := hcut
  cases kq with
  | zero => exact absurd HA.out (by simp [spec_GoodBlock.j0])
  | succ kj1 =>
   have H := HA.out
   clear HA
   simp only [spec_GoodBlock.j0] at H
   by_cases c22 : x46_1 = true
   ·subst c22
    have H1 : (some false) = some r := by rw [if_pos rfl] at H; exact H
    clear H
    have H := H1
    clear H1
    obtain rfl := Option.some.inj H
    go_wp2
    repeat (go_quiet (fail); try go_wp2)
    go_ret
    exact ⟨rf_, bg_⟩
   ·replace c22 := Bool.eq_false_iff.mpr c22
    subst c22
    have H1 : (spec_GoodBlock.l0 kj1 l0_3 (l0_3.length : Int) 0 a0_0 a0_1 a0_2 l0_3 l0_4) = some r := by rw [if_neg (show ¬ (false = true) by decide)] at H; exact H
    clear H
    have H := H1
    clear H1
    have H' := am_ H
    clear H
    have hcz23_0 := bc5_0 BK1001
    have hcz23_1 := bc5_1 BK1001
    have hcz23_2 := bc5_2 BK1001
    have hcz23_3 := bc5_3 BK1001
    have hcz23_4 := bc5_4 BK1001
    have hfz23_0 := bf_ BK1001 0
    have hfz23_1 := bf_ BK1001 1
    have hfz23_2 := bf_ BK1001 2
    have hfz23_3 := bf_ BK1001 3
    have hfz23_4 := bf_ BK1001 4
    go_wp2
    repeat (go_quiet (fail); try go_wp2)
    go_loopg [50] kj1 (fun kq v50 w' => ∃ (x50_2 : Int), v50 = .int .i64 x50_2 ∧ Aside0 (spec_GoodBlock.l0 kq l0_3 (l0_3.length : Int) x50_2 a0_0 a0_1 a0_2 l0_3 l0_4 = some r) ∧ Aside0 (kq ≤ kj1) ∧ Aside0 (w'.heap[gb1001]? = some (.cells #[.int .i64 a0_0, .int .i64 a0_1, .int .i64 a0_2, (.slice A0_3 l0_3.length c0_3), (.slice A0_4 l0_4.length c0_4)] 31 (0, 0))) ∧ Aside0 (Below w.heap.size w w'))
    case atStart => exact ⟨(0), rs_, H', ⟨Nat.le_refl _⟩, ⟨vk_ BK1001⟩, ⟨bg_⟩⟩
    case round =>
     clear H'
     try clear c1
     try clear c2
     try clear p2
     try clear c5
     try clear c6
     try clear c6b0
     try clear c8
     try clear c8b0
     try clear c9
     try clear c10
     try clear c10b0
     try clear c12
     try clear c12b0
     try clear c15
     try clear c22
     try clear hcz11_0
     try clear hcz11_1
     try clear hcz11_2
     try clear hcz11_3
     try clear hcz11_4
     try clear hcz13_0
     try clear hcz13_1
     try clear hcz13_2
     try clear hcz13_3
     try clear hcz13_4
     try clear hcz16_0
     try clear hcz16_1
     try clear hcz16_2
     try clear hcz16_3
     try clear hcz16_4
     try clear hcz18_0
     try clear hcz18_1
     try clear hcz18_2
     try clear hcz18_3
     try clear hcz18_4
     try clear hcz19_0
     try clear hcz19_1
     try clear hcz19_2
     try clear hcz19_3
     try clear hcz19_4
     try clear hcz21_0
     try clear hcz21_1
     try clear hcz21_2
     try clear hcz21_3
     try clear hcz21_4
     try clear hcz23_0
     try clear hcz23_1
     try clear hcz23_2
     try clear hcz23_3
     try clear hcz23_4
     try clear hcz7_0
     try clear hcz7_1
     try clear hcz7_2
     try clear hcz7_3
     try clear hcz7_4
     try clear hcz9_0
     try clear hcz9_1
     try clear hcz9_2
     try clear hcz9_3
     try clear hcz9_4
     try clear hfz11_0
     try clear hfz11_1
     try clear hfz11_2
     try clear hfz11_3
     try clear hfz11_4
     try clear hfz13_0
     try clear hfz13_1
     try clear hfz13_2
     try clear hfz13_3
     try clear hfz13_4
     try clear hfz16_0
     try clear hfz16_1
     try clear hfz16_2
     try clear hfz16_3
     try clear hfz16_4
     try clear hfz18_0
     try clear hfz18_1
     try clear hfz18_2
     try clear hfz18_3
     try clear hfz18_4
     try clear hfz19_0
     try clear hfz19_1
     try clear hfz19_2
     try clear hfz19_3
     try clear hfz19_4
     try clear hfz21_0
     try clear hfz21_1
     try clear hfz21_2
     try clear hfz21_3
     try clear hfz21_4
     try clear hfz23_0
     try clear hfz23_1
     try clear hfz23_2
     try clear hfz23_3
     try clear hfz23_4
     try clear hfz7_0
     try clear hfz7_1
     try clear hfz7_2
     try clear hfz7_3
     try clear hfz7_4
     try clear hfz9_0
     try clear hfz9_1
     try clear hfz9_2
     try clear hfz9_3
     try clear hfz9_4
     try clear p2
     obtain ⟨x50_2, rfl, HA, HK2, BK1001, HB⟩ := hrel
     cases gk with
     | zero => exact absurd HA.out (by simp [spec_GoodBlock.l0])
     | succ k2 =>
      have H := HA.out
      clear HA
      simp only [spec_GoodBlock.l0] at H
      by_cases c24 : x50_2 < (l0_3.length : Int)
      ·rw [if_pos c24] at H
       have c24b0 : decide (x50_2 < (l0_3.length : Int)) = true := decide_eq_true c24
       clear c24
       by_cases c25 : 0 ≤ x50_2
       ·rw [if_pos c25] at H
        have c25b0 : decide (0 ≤ x50_2) = true := decide_eq_true c25
        clear c25
        by_cases c26 : x50_2 < (l0_3.length : Int)
        ·rw [if_pos c26] at H
         have c26b0 : decide (x50_2 < (l0_3.length : Int)) = true := decide_eq_true c26
         clear c26
         by_cases c27 : 0 < (((rd_T83 l0_3 x50_2).f1).length : Int)
         ·rw [if_pos c27] at H
          have c27b0 : decide (0 < (((rd_T83 l0_3 x50_2).f1).length : Int)) = true := decide_eq_true c27
          have c27b1 : decide (0 < ((rd_T83 l0_3 x50_2).f1).length) = true := decide_eq_true (by omega)
          clear c27
          by_cases c28 : ((rd_T85 ((rd_T83 l0_3 x50_2).f1) 0).f0) < a0_0
          ·rw [if_pos c28] at H
           have c28b0 : decide (((rd_T85 ((rd_T83 l0_3 x50_2).f1) 0).f0) < a0_0) = true := decide_eq_true c28
           clear c28
           obtain rfl := Option.some.inj H
           have p1004 : 0 ≤ (x50_2 : Int) := od_
           have q1004 : x50_2 < (l0_3.length : Int) := od_
           obtain ⟨ad1004, A1004_0, c1004_0, A1004_1, c1004_1, e1004, hx1004_0, hx1004_1, hl1004_0, hi1004_0, hl1004_1, hi1004_1⟩ := at_T83 HR0_3.out x50_2 p1004 q1004
           cases e1004
           replace hx1004_0 := kp_ HB hx1004_0
           replace hx1004_1 := kp_ HB hx1004_1
           have HR1004_0 := am_ hi1004_0
           have HC1004_0 := am_ hl1004_0
           clear hi1004_0 hl1004_0
           have HR1004_1 := am_ hi1004_1
           have HC1004_1 := am_ hl1004_1
           clear hi1004_1 hl1004_1
           replace p1004 := eq_true p1004
           replace q1004 := eq_true q1004
           go_wp2_with (first | ((with_reducible refine gate_dst (N := 4) rfl ?_); (try (refine gate_guard (by rfl) ?_; dsimp only)); refine bx_ 4 #[.slice none 0 0, .slice none 0 0] 83 ?_; intro gb1005 hg w29 hbox hb; have BK1005 := am_ (hbox); have GW1005 := am_ (gg_ hg : w.heap.size ≤ gb1005); have NB1001_1005 := am_ ((by rw [hg]; exact Nat.ne_of_lt (blk_lt (g := gb1001) (o := .cells #[.int .i64 a0_0, .int .i64 a0_1, .int .i64 a0_2, .slice (some ad1004) l0_3.length c0_3, .slice A0_4 l0_4.length c0_4] 31 (0, 0)) (vk_ BK1001)) : gb1001 ≠ gb1005)); have NB1005_1001 := am_ ((by rw [hg]; exact Nat.ne_of_gt (blk_lt (g := gb1001) (o := .cells #[.int .i64 a0_0, .int .i64 a0_1, .int .i64 a0_2, .slice (some ad1004) l0_3.length c0_3, .slice A0_4 l0_4.length c0_4] 31 (0, 0)) (vk_ BK1001)) : gb1005 ≠ gb1001)); replace BK1001 := am_ (blk_below (g := gb1001) (vk_ BK1001) hb); replace HB := am_ (below_step bg_ hb); have GE1005 := GW1005; clear hb hbox hg; have hnb30 := NB1005_1001.out; have hnc30 := NB1001_1005.out; have hcz31_0 := bc2_0 BK1005; have hcz31_1 := bc2_1 BK1005; have hfz31_0 := bf_ BK1005 0; have hfz31_1 := bf_ BK1005 1; have p1006 : 0 ≤ (0 : Int) := (by omega); have q1006 : 0 < (((rd_T83 l0_3 x50_2).f1).length : Int) := od_; obtain ⟨ad1006, e1006, hx1006_0, hx1006_1⟩ := at_T85 HR1004_1.out 0 p1006 q1006; cases e1006; have qi1006 : (0 < ((rd_T83 l0_3 x50_2).f1).length) = True := eq_true (by omega); (try rw [show ((0 : Int)).toNat = 0 from rfl] at hx1006_0); (try rw [show 0 * 2 = 0 from rfl] at hx1006_0); (try rw [Addr.add_zero'] at hx1006_0); (try rw [show ((0 : Int)).toNat = 0 from rfl] at hx1006_1); (try rw [show 0 * 2 = 0 from rfl] at hx1006_1); (try rw [Addr.add_zero'] at hx1006_1); have hn1006_0 : ad1006.block ≠ gb1005 := hb_ hx1006_0 GW1005; have hn1006_1 : ad1006.block ≠ gb1005 := hb_ hx1006_0 GW1005; replace hx1006_0 := kp_ HB hx1006_0; replace hx1006_1 := kp_ HB hx1006_1; replace hx1006_0 := cf_ gb1005 0 hn1006_0 (.slice A1004_0 ((rd_T83 l0_3 x50_2).f0).length c1004_0) hx1006_0; replace hx1006_1 := cf_ gb1005 0 hn1006_0 (.slice A1004_0 ((rd_T83 l0_3 x50_2).f0).length c1004_0) hx1006_1; replace hx1006_0 := cf_ gb1005 1 hn1006_1 (.slice (some ad1006) ((rd_T83 l0_3 x50_2).f1).length c1004_1) hx1006_0; replace hx1006_1 := cf_ gb1005 1 hn1006_1 (.slice (some ad1006) ((rd_T83 l0_3 x50_2).f1).length c1004_1) hx1006_1; (try have hy1006_0 := fun (n_ : Nat) => (show ((((w29.drewN n_).setCell ⟨gb1005, 0, none⟩ (.slice A1004_0 ((rd_T83 l0_3 x50_2).f0).length c1004_0)).setCell ⟨gb1005, 1, none⟩ (.slice (some ad1006) ((rd_T83 l0_3 x50_2).f1).length c1004_1))).cell? _ = some _ from hx1006_0)); (try have hy1006_1 := fun (n_ : Nat) => (show ((((w29.drewN n_).setCell ⟨gb1005, 0, none⟩ (.slice A1004_0 ((rd_T83 l0_3 x50_2).f0).length c1004_0)).setCell ⟨gb1005, 1, none⟩ (.slice (some ad1006) ((rd_T83 l0_3 x50_2).f1).length c1004_1))).cell? _ = some _ from hx1006_1)); clear hn1006_0; clear hn1006_1; replace p1006 := eq_true p1006; replace q1006 := eq_true q1006; have hcz32_0 := bc5_0 BK1001; have hcz32_1 := bc5_1 BK1001; have hcz32_2 := bc5_2 BK1001; have hcz32_3 := bc5_3 BK1001; have hcz32_4 := bc5_4 BK1001; have hfz32_0 := bf_ BK1001 0; have hfz32_1 := bf_ BK1001 1; have hfz32_2 := bf_ BK1001 2; have hfz32_3 := bf_ BK1001 3; have hfz32_4 := bf_ BK1001 4))
           repeat (go_quiet (first | ((with_reducible refine gate_dst (N := 4) rfl ?_); (try (refine gate_guard (by rfl) ?_; dsimp only)); refine bx_ 4 #[.slice none 0 0, .slice none 0 0] 83 ?_; intro gb1005 hg w29 hbox hb; have BK1005 := am_ (hbox); have GW1005 := am_ (gg_ hg : w.heap.size ≤ gb1005); have NB1001_1005 := am_ ((by rw [hg]; exact Nat.ne_of_lt (blk_lt (g := gb1001) (o := .cells #[.int .i64 a0_0, .int .i64 a0_1, .int .i64 a0_2, .slice (some ad1004) l0_3.length c0_3, .slice A0_4 l0_4.length c0_4] 31 (0, 0)) (vk_ BK1001)) : gb1001 ≠ gb1005)); have NB1005_1001 := am_ ((by rw [hg]; exact Nat.ne_of_gt (blk_lt (g := gb1001) (o := .cells #[.int .i64 a0_0, .int .i64 a0_1, .int .i64 a0_2, .slice (some ad1004) l0_3.length c0_3, .slice A0_4 l0_4.length c0_4] 31 (0, 0)) (vk_ BK1001)) : gb1005 ≠ gb1001)); replace BK1001 := am_ (blk_below (g := gb1001) (vk_ BK1001) hb); replace HB := am_ (below_step bg_ hb); have GE1005 := GW1005; clear hb hbox hg; have hnb30 := NB1005_1001.out; have hnc30 := NB1001_1005.out; have hcz31_0 := bc2_0 BK1005; have hcz31_1 := bc2_1 BK1005; have hfz31_0 := bf_ BK1005 0; have hfz31_1 := bf_ BK1005 1; have p1006 : 0 ≤ (0 : Int) := (by omega); have q1006 : 0 < (((rd_T83 l0_3 x50_2).f1).length : Int) := od_; obtain ⟨ad1006, e1006, hx1006_0, hx1006_1⟩ := at_T85 HR1004_1.out 0 p1006 q1006; cases e1006; have qi1006 : (0 < ((rd_T83 l0_3 x50_2).f1).length) = True := eq_true (by omega); (try rw [show ((0 : Int)).toNat = 0 from rfl] at hx1006_0); (try rw [show 0 * 2 = 0 from rfl] at hx1006_0); (try rw [Addr.add_zero'] at hx1006_0); (try rw [show ((0 : Int)).toNat = 0 from rfl] at hx1006_1); (try rw [show 0 * 2 = 0 from rfl] at hx1006_1); (try rw [Addr.add_zero'] at hx1006_1); have hn1006_0 : ad1006.block ≠ gb1005 := hb_ hx1006_0 GW1005; have hn1006_1 : ad1006.block ≠ gb1005 := hb_ hx1006_0 GW1005; replace hx1006_0 := kp_ HB hx1006_0; replace hx1006_1 := kp_ HB hx1006_1; replace hx1006_0 := cf_ gb1005 0 hn1006_0 (.slice A1004_0 ((rd_T83 l0_3 x50_2).f0).length c1004_0) hx1006_0; replace hx1006_1 := cf_ gb1005 0 hn1006_0 (.slice A1004_0 ((rd_T83 l0_3 x50_2).f0).length c1004_0) hx1006_1; replace hx1006_0 := cf_ gb1005 1 hn1006_1 (.slice (some ad1006) ((rd_T83 l0_3 x50_2).f1).length c1004_1) hx1006_0; replace hx1006_1 := cf_ gb1005 1 hn1006_1 (.slice (some ad1006) ((rd_T83 l0_3 x50_2).f1).length c1004_1) hx1006_1; (try have hy1006_0 := fun (n_ : Nat) => (show ((((w29.drewN n_).setCell ⟨gb1005, 0, none⟩ (.slice A1004_0 ((rd_T83 l0_3 x50_2).f0).length c1004_0)).setCell ⟨gb1005, 1, none⟩ (.slice (some ad1006) ((rd_T83 l0_3 x50_2).f1).length c1004_1))).cell? _ = some _ from hx1006_0)); (try have hy1006_1 := fun (n_ : Nat) => (show ((((w29.drewN n_).setCell ⟨gb1005, 0, none⟩ (.slice A1004_0 ((rd_T83 l0_3 x50_2).f0).length c1004_0)).setCell ⟨gb1005, 1, none⟩ (.slice (some ad1006) ((rd_T83 l0_3 x50_2).f1).length c1004_1))).cell? _ = some _ from hx1006_1)); clear hn1006_0; clear hn1006_1; replace p1006 := eq_true p1006; replace q1006 := eq_true q1006; have hcz32_0 := bc5_0 BK1001; have hcz32_1 := bc5_1 BK1001; have hcz32_2 := bc5_2 BK1001; have hcz32_3 := bc5_3 BK1001; have hcz32_4 := bc5_4 BK1001; have hfz32_0 := bf_ BK1001 0; have hfz32_1 := bf_ BK1001 1; have hfz32_2 := bf_ BK1001 2; have hfz32_3 := bf_ BK1001 3; have hfz32_4 := bf_ BK1001 4)); try go_wp2)
           go_ret
           exact ⟨rf_, bg_⟩
          ·rw [if_neg c28] at H
           have c28b0 : decide (((rd_T85 ((rd_T83 l0_3 x50_2).f1) 0).f0) < a0_0) = false := decide_eq_false c28
           clear c28
           obtain ⟨ji33, hji33⟩ : ∃ j_ : Int, (wrap64 ((((rd_T83 l0_3 x50_2).f1).length : Int) - 1)) = j_ := ⟨_, rfl⟩
           replace H : (if 0 ≤ (ji33) then (if (ji33) < (((rd_T83 l0_3 x50_2).f1).length : Int) then (if ((rd_T85 ((rd_T83 l0_3 x50_2).f1) (ji33)).f0) ≥ a0_1 then (some false) else (spec_GoodBlock.l0 k2 l0_3 (l0_3.length : Int) (wrap64 (x50_2 + 1)) a0_0 a0_1 a0_2 l0_3 l0_4)) else (none)) else (none)) = some r := by first | (rw [hji33] at H; exact H) | (simp only [hji33] at H ⊢; exact H)
           have hji33w : (IntKind.i64.wrap ((((rd_T83 l0_3 x50_2).f1).length : Int) - 1)) = ji33 := (i64_w _).trans hji33
           by_cases c34 : 0 ≤ (ji33)
           ·rw [if_pos c34] at H
            have c34b0 : decide (0 ≤ (ji33)) = true := decide_eq_true c34
            clear c34
            by_cases c35 : (ji33) < (((rd_T83 l0_3 x50_2).f1).length : Int)
            ·rw [if_pos c35] at H
             have c35b0 : decide ((ji33) < (((rd_T83 l0_3 x50_2).f1).length : Int)) = true := decide_eq_true c35
             clear c35
             by_cases c36 : ((rd_T85 ((rd_T83 l0_3 x50_2).f1) (ji33)).f0) ≥ a0_1
             ·rw [if_pos c36] at H
              have c36b0 : decide (a0_1 ≤ ((rd_T85 ((rd_T83 l0_3 x50_2).f1) (ji33)).f0)) = true := decide_eq_true c36
              clear c36
              obtain rfl := Option.some.inj H
              have p1004 : 0 ≤ (x50_2 : Int) := od_
              have q1004 : x50_2 < (l0_3.length : Int) := od_
              obtain ⟨ad1004, A1004_0, c1004_0, A1004_1, c1004_1, e1004, hx1004_0, hx1004_1, hl1004_0, hi1004_0, hl1004_1, hi1004_1⟩ := at_T83 HR0_3.out x50_2 p1004 q1004
              cases e1004
              replace hx1004_0 := kp_ HB hx1004_0
              replace hx1004_1 := kp_ HB hx1004_1
              have HR1004_0 := am_ hi1004_0
              have HC1004_0 := am_ hl1004_0
              clear hi1004_0 hl1004_0
              have HR1004_1 := am_ hi1004_1
              have HC1004_1 := am_ hl1004_1
              clear hi1004_1 hl1004_1
              replace p1004 := eq_true p1004
              replace q1004 := eq_true q1004
              go_wp2_with (first | ((with_reducible refine gate_dst (N := 4) rfl ?_); (try (refine gate_guard (by rfl) ?_; dsimp only)); refine bx_ 4 #[.slice none 0 0, .slice none 0 0] 83 ?_; intro gb1005 hg w37 hbox hb; have BK1005 := am_ (hbox); have GW1005 := am_ (gg_ hg : w.heap.size ≤ gb1005); have NB1001_1005 := am_ ((by rw [hg]; exact Nat.ne_of_lt (blk_lt (g := gb1001) (o := .cells #[.int .i64 a0_0, .int .i64 a0_1, .int .i64 a0_2, .slice (some ad1004) l0_3.length c0_3, .slice A0_4 l0_4.length c0_4] 31 (0, 0)) (vk_ BK1001)) : gb1001 ≠ gb1005)); have NB1005_1001 := am_ ((by rw [hg]; exact Nat.ne_of_gt (blk_lt (g := gb1001) (o := .cells #[.int .i64 a0_0, .int .i64 a0_1, .int .i64 a0_2, .slice (some ad1004) l0_3.length c0_3, .slice A0_4 l0_4.length c0_4] 31 (0, 0)) (vk_ BK1001)) : gb1005 ≠ gb1001)); replace BK1001 := am_ (blk_below (g := gb1001) (vk_ BK1001) hb); replace HB := am_ (below_step bg_ hb); have GE1005 := GW1005; clear hb hbox hg; have hnb38 := NB1005_1001.out; have hnc38 := NB1001_1005.out; have hcz39_0 := bc2_0 BK1005; have hcz39_1 := bc2_1 BK1005; have hfz39_0 := bf_ BK1005 0; have hfz39_1 := bf_ BK1005 1; have p1006 : 0 ≤ (0 : Int) := (by omega); have q1006 : 0 < (((rd_T83 l0_3 x50_2).f1).length : Int) := od_; obtain ⟨ad1006, e1006, hx1006_0, hx1006_1⟩ := at_T85 HR1004_1.out 0 p1006 q1006; cases e1006; have qi1006 : (0 < ((rd_T83 l0_3 x50_2).f1).length) = True := eq_true (by omega); (try rw [show ((0 : Int)).toNat = 0 from rfl] at hx1006_0); (try rw [show 0 * 2 = 0 from rfl] at hx1006_0); (try rw [Addr.add_zero'] at hx1006_0); (try rw [show ((0 : Int)).toNat = 0 from rfl] at hx1006_1); (try rw [show 0 * 2 = 0 from rfl] at hx1006_1); (try rw [Addr.add_zero'] at hx1006_1); have hn1006_0 : ad1006.block ≠ gb1005 := hb_ hx1006_0 GW1005; have hn1006_1 : ad1006.block ≠ gb1005 := hb_ hx1006_0 GW1005; replace hx1006_0 := kp_ HB hx1006_0; replace hx1006_1 := kp_ HB hx1006_1; replace hx1006_0 := cf_ gb1005 0 hn1006_0 (.slice A1004_0 ((rd_T83 l0_3 x50_2).f0).length c1004_0) hx1006_0; replace hx1006_1 := cf_ gb1005 0 hn1006_0 (.slice A1004_0 ((rd_T83 l0_3 x50_2).f0).length c1004_0) hx1006_1; replace hx1006_0 := cf_ gb1005 1 hn1006_1 (.slice (some ad1006) ((rd_T83 l0_3 x50_2).f1).length c1004_1) hx1006_0; replace hx1006_1 := cf_ gb1005 1 hn1006_1 (.slice (some ad1006) ((rd_T83 l0_3 x50_2).f1).length c1004_1) hx1006_1; (try have hy1006_0 := fun (n_ : Nat) => (show ((((w37.drewN n_).setCell ⟨gb1005, 0, none⟩ (.slice A1004_0 ((rd_T83 l0_3 x50_2).f0).length c1004_0)).setCell ⟨gb1005, 1, none⟩ (.slice (some ad1006) ((rd_T83 l0_3 x50_2).f1).length c1004_1))).cell? _ = some _ from hx1006_0)); (try have hy1006_1 := fun (n_ : Nat) => (show ((((w37.drewN n_).setCell ⟨gb1005, 0, none⟩ (.slice A1004_0 ((rd_T83 l0_3 x50_2).f0).length c1004_0)).setCell ⟨gb1005, 1, none⟩ (.slice (some ad1006) ((rd_T83 l0_3 x50_2).f1).length c1004_1))).cell? _ = some _ from hx1006_1)); clear hn1006_0; clear hn1006_1; replace p1006 := eq_true p1006; replace q1006 := eq_true q1006; have hcz40_0 := bc5_0 BK1001; have hcz40_1 := bc5_1 BK1001; have hcz40_2 := bc5_2 BK1001; have hcz40_3 := bc5_3 BK1001; have hcz40_4 := bc5_4 BK1001; have hfz40_0 := bf_ BK1001 0; have hfz40_1 := bf_ BK1001 1; have hfz40_2 := bf_ BK1001 2; have hfz40_3 := bf_ BK1001 3; have hfz40_4 := bf_ BK1001 4; have p1007 : 0 ≤ ((ji33) : Int) := od_; have q1007 : (ji33) < (((rd_T83 l0_3 x50_2).f1).length : Int) := od_; obtain ⟨ad1007, e1007, hx1007_0, hx1007_1⟩ := at_T85 HR1004_1.out (ji33) p1007 q1007; obtain rfl : ad1006 = ad1007 := (by injection e1007); have hn1007_0 : ad1006.block ≠ gb1005 := hb_ hx1007_0 GW1005; have hn1007_1 : ad1006.block ≠ gb1005 := hb_ hx1007_0 GW1005; replace hx1007_0 := kp_ HB hx1007_0; replace hx1007_1 := kp_ HB hx1007_1; replace hx1007_0 := cf_ gb1005 0 hn1007_0 (.slice A1004_0 ((rd_T83 l0_3 x50_2).f0).length c1004_0) hx1007_0; replace hx1007_1 := cf_ gb1005 0 hn1007_0 (.slice A1004_0 ((rd_T83 l0_3 x50_2).f0).length c1004_0) hx1007_1; replace hx1007_0 := cf_ gb1005 1 hn1007_1 (.slice (some ad1006) ((rd_T83 l0_3 x50_2).f1).length c1004_1) hx1007_0; replace hx1007_1 := cf_ gb1005 1 hn1007_1 (.slice (some ad1006) ((rd_T83 l0_3 x50_2).f1).length c1004_1) hx1007_1; (try have hy1007_0 := fun (n_ : Nat) => (show ((((w37.drewN n_).setCell ⟨gb1005, 0, none⟩ (.slice A1004_0 ((rd_T83 l0_3 x50_2).f0).length c1004_0)).setCell ⟨gb1005, 1, none⟩ (.slice (some ad1006) ((rd_T83 l0_3 x50_2).f1).length c1004_1))).cell? _ = some _ from hx1007_0)); (try have hy1007_1 := fun (n_ : Nat) => (show ((((w37.drewN n_).setCell ⟨gb1005, 0, none⟩ (.slice A1004_0 ((rd_T83 l0_3 x50_2).f0).length c1004_0)).setCell ⟨gb1005, 1, none⟩ (.slice (some ad1006) ((rd_T83 l0_3 x50_2).f1).length c1004_1))).cell? _ = some _ from hx1007_1)); clear hn1007_0; clear hn1007_1; replace p1007 := eq_true p1007; replace q1007 := eq_true q1007))
              repeat (go_quiet (first | ((with_reducible refine gate_dst (N := 4) rfl ?_); (try (refine gate_guard (by rfl) ?_; dsimp only)); refine bx_ 4 #[.slice none 0 0, .slice none 0 0] 83 ?_; intro gb1005 hg w37 hbox hb; have BK1005 := am_ (hbox); have GW1005 := am_ (gg_ hg : w.heap.size ≤ gb1005); have NB1001_1005 := am_ ((by rw [hg]; exact Nat.ne_of_lt (blk_lt (g := gb1001) (o := .cells #[.int .i64 a0_0, .int .i64 a0_1, .int .i64 a0_2, .slice (some ad1004) l0_3.length c0_3, .slice A0_4 l0_4.length c0_4] 31 (0, 0)) (vk_ BK1001)) : gb1001 ≠ gb1005)); have NB1005_1001 := am_ ((by rw [hg]; exact Nat.ne_of_gt (blk_lt (g := gb1001) (o := .cells #[.int .i64 a0_0, .int .i64 a0_1, .int .i64 a0_2, .slice (some ad1004) l0_3.length c0_3, .slice A0_4 l0_4.length c0_4] 31 (0, 0)) (vk_ BK1001)) : gb1005 ≠ gb1001)); replace BK1001 := am_ (blk_below (g := gb1001) (vk_ BK1001) hb); replace HB := am_ (below_step bg_ hb); have GE1005 := GW1005; clear hb hbox hg; have hnb38 := NB1005_1001.out; have hnc38 := NB1001_1005.out; have hcz39_0 := bc2_0 BK1005; have hcz39_1 := bc2_1 BK1005; have hfz39_0 := bf_ BK1005 0; have hfz39_1 := bf_ BK1005 1; have p1006 : 0 ≤ (0 : Int) := (by omega); have q1006 : 0 < (((rd_T83 l0_3 x50_2).f1).length : Int) := od_; obtain ⟨ad1006, e1006, hx1006_0, hx1006_1⟩ := at_T85 HR1004_1.out 0 p1006 q1006; cases e1006; have qi1006 : (0 < ((rd_T83 l0_3 x50_2).f1).length) = True := eq_true (by omega); (try rw [show ((0 : Int)).toNat = 0 from rfl] at hx1006_0); (try rw [show 0 * 2 = 0 from rfl] at hx1006_0); (try rw [Addr.add_zero'] at hx1006_0); (try rw [show ((0 : Int)).toNat = 0 from rfl] at hx1006_1); (try rw [show 0 * 2 = 0 from rfl] at hx1006_1); (try rw [Addr.add_zero'] at hx1006_1); have hn1006_0 : ad1006.block ≠ gb1005 := hb_ hx1006_0 GW1005; have hn1006_1 : ad1006.block ≠ gb1005 := hb_ hx1006_0 GW1005; replace hx1006_0 := kp_ HB hx1006_0; replace hx1006_1 := kp_ HB hx1006_1; replace hx1006_0 := cf_ gb1005 0 hn1006_0 (.slice A1004_0 ((rd_T83 l0_3 x50_2).f0).length c1004_0) hx1006_0; replace hx1006_1 := cf_ gb1005 0 hn1006_0 (.slice A1004_0 ((rd_T83 l0_3 x50_2).f0).length c1004_0) hx1006_1; replace hx1006_0 := cf_ gb1005 1 hn1006_1 (.slice (some ad1006) ((rd_T83 l0_3 x50_2).f1).length c1004_1) hx1006_0; replace hx1006_1 := cf_ gb1005 1 hn1006_1 (.slice (some ad1006) ((rd_T83 l0_3 x50_2).f1).length c1004_1) hx1006_1; (try have hy1006_0 := fun (n_ : Nat) => (show ((((w37.drewN n_).setCell ⟨gb1005, 0, none⟩ (.slice A1004_0 ((rd_T83 l0_3 x50_2).f0).length c1004_0)).setCell ⟨gb1005, 1, none⟩ (.slice (some ad1006) ((rd_T83 l0_3 x50_2).f1).length c1004_1))).cell? _ = some _ from hx1006_0)); (try have hy1006_1 := fun (n_ : Nat) => (show ((((w37.drewN n_).setCell ⟨gb1005, 0, none⟩ (.slice A1004_0 ((rd_T83 l0_3 x50_2).f0).length c1004_0)).setCell ⟨gb1005, 1, none⟩ (.slice (some ad1006) ((rd_T83 l0_3 x50_2).f1).length c1004_1))).cell? _ = some _ from hx1006_1)); clear hn1006_0; clear hn1006_1; replace p1006 := eq_true p1006; replace q1006 := eq_true q1006; have hcz40_0 := bc5_0 BK1001; have hcz40_1 := bc5_1 BK1001; have hcz40_2 := bc5_2 BK1001; have hcz40_3 := bc5_3 BK1001; have hcz40_4 := bc5_4 BK1001; have hfz40_0 := bf_ BK1001 0; have hfz40_1 := bf_ BK1001 1; have hfz40_2 := bf_ BK1001 2; have hfz40_3 := bf_ BK1001 3; have hfz40_4 := bf_ BK1001 4; have p1007 : 0 ≤ ((ji33) : Int) := od_; have q1007 : (ji33) < (((rd_T83 l0_3 x50_2).f1).length : Int) := od_; obtain ⟨ad1007, e1007, hx1007_0, hx1007_1⟩ := at_T85 HR1004_1.out (ji33) p1007 q1007; obtain rfl : ad1006 = ad1007 := (by injection e1007); have hn1007_0 : ad1006.block ≠ gb1005 := hb_ hx1007_0 GW1005; have hn1007_1 : ad1006.block ≠ gb1005 := hb_ hx1007_0 GW1005; replace hx1007_0 := kp_ HB hx1007_0; replace hx1007_1 := kp_ HB hx1007_1; replace hx1007_0 := cf_ gb1005 0 hn1007_0 (.slice A1004_0 ((rd_T83 l0_3 x50_2).f0).length c1004_0) hx1007_0; replace hx1007_1 := cf_ gb1005 0 hn1007_0 (.slice A1004_0 ((rd_T83 l0_3 x50_2).f0).length c1004_0) hx1007_1; replace hx1007_0 := cf_ gb1005 1 hn1007_1 (.slice (some ad1006) ((rd_T83 l0_3 x50_2).f1).length c1004_1) hx1007_0; replace hx1007_1 := cf_ gb1005 1 hn1007_1 (.slice (some ad1006) ((rd_T83 l0_3 x50_2).f1).length c1004_1) hx1007_1; (try have hy1007_0 := fun (n_ : Nat) => (show ((((w37.drewN n_).setCell ⟨gb1005, 0, none⟩ (.slice A1004_0 ((rd_T83 l0_3 x50_2).f0).length c1004_0)).setCell ⟨gb1005, 1, none⟩ (.slice (some ad1006) ((rd_T83 l0_3 x50_2).f1).length c1004_1))).cell? _ = some _ from hx1007_0)); (try have hy1007_1 := fun (n_ : Nat) => (show ((((w37.drewN n_).setCell ⟨gb1005, 0, none⟩ (.slice A1004_0 ((rd_T83 l0_3 x50_2).f0).length c1004_0)).setCell ⟨gb1005, 1, none⟩ (.slice (some ad1006) ((rd_T83 l0_3 x50_2).f1).length c1004_1))).cell? _ = some _ from hx1007_1)); clear hn1007_0; clear hn1007_1; replace p1007 := eq_true p1007; replace q1007 := eq_true q1007)); try go_wp2)
              go_ret
              exact ⟨by first | rfl | (simp [errW_none, errW_some] <;> rfl) | (simp only [← hji33]; first | rfl | (simp [errW_none, errW_some] <;> rfl)) | (simp [*, errW_none, errW_some] <;> rfl) | (simp [*, Go.Proofs.Ytknlgignjbghkaa.Gt.nil_bne]; done), bg_⟩
             ·rw [if_neg c36] at H
              have c36b0 : decide (a0_1 ≤ ((rd_T85 ((rd_T83 l0_3 x50_2).f1) (ji33)).f0)) = false := decide_eq_false c36
              clear c36
              have H' := am_ H
              clear H
              have p1004 : 0 ≤ (x50_2 : Int) := od_
              have q1004 : x50_2 < (l0_3.length : Int) := od_
              obtain ⟨ad1004, A1004_0, c1004_0, A1004_1, c1004_1, e1004, hx1004_0, hx1004_1, hl1004_0, hi1004_0, hl1004_1, hi1004_1⟩ := at_T83 HR0_3.out x50_2 p1004 q1004
              cases e1004
              replace hx1004_0 := kp_ HB hx1004_0
              replace hx1004_1 := kp_ HB hx1004_1
              have HR1004_0 := am_ hi1004_0
              have HC1004_0 := am_ hl1004_0
              clear hi1004_0 hl1004_0
              have HR1004_1 := am_ hi1004_1
              have HC1004_1 := am_ hl1004_1
              clear hi1004_1 hl1004_1
              replace p1004 := eq_true p1004
              replace q1004 := eq_true q1004
              go_wp2_with (first | ((with_reducible refine gate_dst (N := 4) rfl ?_); (try (refine gate_guard (by rfl) ?_; dsimp only)); refine bx_ 4 #[.slice none 0 0, .slice none 0 0] 83 ?_; intro gb1005 hg w41 hbox hb; have BK1005 := am_ (hbox); have GW1005 := am_ (gg_ hg : w.heap.size ≤ gb1005); have NB1001_1005 := am_ ((by rw [hg]; exact Nat.ne_of_lt (blk_lt (g := gb1001) (o := .cells #[.int .i64 a0_0, .int .i64 a0_1, .int .i64 a0_2, .slice (some ad1004) l0_3.length c0_3, .slice A0_4 l0_4.length c0_4] 31 (0, 0)) (vk_ BK1001)) : gb1001 ≠ gb1005)); have NB1005_1001 := am_ ((by rw [hg]; exact Nat.ne_of_gt (blk_lt (g := gb1001) (o := .cells #[.int .i64 a0_0, .int .i64 a0_1, .int .i64 a0_2, .slice (some ad1004) l0_3.length c0_3, .slice A0_4 l0_4.length c0_4] 31 (0, 0)) (vk_ BK1001)) : gb1005 ≠ gb1001)); replace BK1001 := am_ (blk_below (g := gb1001) (vk_ BK1001) hb); replace HB := am_ (below_step bg_ hb); have GE1005 := GW1005; clear hb hbox hg; have hnb42 := NB1005_1001.out; have hnc42 := NB1001_1005.out; have hcz43_0 := bc2_0 BK1005; have hcz43_1 := bc2_1 BK1005; have hfz43_0 := bf_ BK1005 0; have hfz43_1 := bf_ BK1005 1; have p1006 : 0 ≤ (0 : Int) := (by omega); have q1006 : 0 < (((rd_T83 l0_3 x50_2).f1).length : Int) := od_; obtain ⟨ad1006, e1006, hx1006_0, hx1006_1⟩ := at_T85 HR1004_1.out 0 p1006 q1006; cases e1006; have qi1006 : (0 < ((rd_T83 l0_3 x50_2).f1).length) = True := eq_true (by omega); (try rw [show ((0 : Int)).toNat = 0 from rfl] at hx1006_0); (try rw [show 0 * 2 = 0 from rfl] at hx1006_0); (try rw [Addr.add_zero'] at hx1006_0); (try rw [show ((0 : Int)).toNat = 0 from rfl] at hx1006_1); (try rw [show 0 * 2 = 0 from rfl] at hx1006_1); (try rw [Addr.add_zero'] at hx1006_1); have hn1006_0 : ad1006.block ≠ gb1005 := hb_ hx1006_0 GW1005; have hn1006_1 : ad1006.block ≠ gb1005 := hb_ hx1006_0 GW1005; replace hx1006_0 := kp_ HB hx1006_0; replace hx1006_1 := kp_ HB hx1006_1; replace hx1006_0 := cf_ gb1005 0 hn1006_0 (.slice A1004_0 ((rd_T83 l0_3 x50_2).f0).length c1004_0) hx1006_0; replace hx1006_1 := cf_ gb1005 0 hn1006_0 (.slice A1004_0 ((rd_T83 l0_3 x50_2).f0).length c1004_0) hx1006_1; replace hx1006_0 := cf_ gb1005 1 hn1006_1 (.slice (some ad1006) ((rd_T83 l0_3 x50_2).f1).length c1004_1) hx1006_0; replace hx1006_1 := cf_ gb1005 1 hn1006_1 (.slice (some ad1006) ((rd_T83 l0_3 x50_2).f1).length c1004_1) hx1006_1; (try have hy1006_0 := fun (n_ : Nat) => (show ((((w41.drewN n_).setCell ⟨gb1005, 0, none⟩ (.slice A1004_0 ((rd_T83 l0_3 x50_2).f0).length c1004_0)).setCell ⟨gb1005, 1, none⟩ (.slice (some ad1006) ((rd_T83 l0_3 x50_2).f1).length c1004_1))).cell? _ = some _ from hx1006_0)); (try have hy1006_1 := fun (n_ : Nat) => (show ((((w41.drewN n_).setCell ⟨gb1005, 0, none⟩ (.slice A1004_0 ((rd_T83 l0_3 x50_2).f0).length c1004_0)).setCell ⟨gb1005, 1, none⟩ (.slice (some ad1006) ((rd_T83 l0_3 x50_2).f1).length c1004_1))).cell? _ = some _ from hx1006_1)); clear hn1006_0; clear hn1006_1; replace p1006 := eq_true p1006; replace q1006 := eq_true q1006; have hcz44_0 := bc5_0 BK1001; have hcz44_1 := bc5_1 BK1001; have hcz44_2 := bc5_2 BK1001; have hcz44_3 := bc5_3 BK1001; have hcz44_4 := bc5_4 BK1001; have hfz44_0 := bf_ BK1001 0; have hfz44_1 := bf_ BK1001 1; have hfz44_2 := bf_ BK1001 2; have hfz44_3 := bf_ BK1001 3; have hfz44_4 := bf_ BK1001 4; have p1007 : 0 ≤ ((ji33) : Int) := od_; have q1007 : (ji33) < (((rd_T83 l0_3 x50_2).f1).length : Int) := od_; obtain ⟨ad1007, e1007, hx1007_0, hx1007_1⟩ := at_T85 HR1004_1.out (ji33) p1007 q1007; obtain rfl : ad1006 = ad1007 := (by injection e1007); have hn1007_0 : ad1006.block ≠ gb1005 := hb_ hx1007_0 GW1005; have hn1007_1 : ad1006.block ≠ gb1005 := hb_ hx1007_0 GW1005; replace hx1007_0 := kp_ HB hx1007_0; replace hx1007_1 := kp_ HB hx1007_1; replace hx1007_0 := cf_ gb1005 0 hn1007_0 (.slice A1004_0 ((rd_T83 l0_3 x50_2).f0).length c1004_0) hx1007_0; replace hx1007_1 := cf_ gb1005 0 hn1007_0 (.slice A1004_0 ((rd_T83 l0_3 x50_2).f0).length c1004_0) hx1007_1; replace hx1007_0 := cf_ gb1005 1 hn1007_1 (.slice (some ad1006) ((rd_T83 l0_3 x50_2).f1).length c1004_1) hx1007_0; replace hx1007_1 := cf_ gb1005 1 hn1007_1 (.slice (some ad1006) ((rd_T83 l0_3 x50_2).f1).length c1004_1) hx1007_1; (try have hy1007_0 := fun (n_ : Nat) => (show ((((w41.drewN n_).setCell ⟨gb1005, 0, none⟩ (.slice A1004_0 ((rd_T83 l0_3 x50_2).f0).length c1004_0)).setCell ⟨gb1005, 1, none⟩ (.slice (some ad1006) ((rd_T83 l0_3 x50_2).f1).length c1004_1))).cell? _ = some _ from hx1007_0)); (try have hy1007_1 := fun (n_ : Nat) => (show ((((w41.drewN n_).setCell ⟨gb1005, 0, none⟩ (.slice A1004_0 ((rd_T83 l0_3 x50_2).f0).length c1004_0)).setCell ⟨gb1005, 1, none⟩ (.slice (some ad1006) ((rd_T83 l0_3 x50_2).f1).length c1004_1))).cell? _ = some _ from hx1007_1)); clear hn1007_0; clear hn1007_1; replace p1007 := eq_true p1007; replace q1007 := eq_true q1007))
              repeat (go_quiet (first | ((with_reducible refine gate_dst (N := 4) rfl ?_); (try (refine gate_guard (by rfl) ?_; dsimp only)); refine bx_ 4 #[.slice none 0 0, .slice none 0 0] 83 ?_; intro gb1005 hg w41 hbox hb; have BK1005 := am_ (hbox); have GW1005 := am_ (gg_ hg : w.heap.size ≤ gb1005); have NB1001_1005 := am_ ((by rw [hg]; exact Nat.ne_of_lt (blk_lt (g := gb1001) (o := .cells #[.int .i64 a0_0, .int .i64 a0_1, .int .i64 a0_2, .slice (some ad1004) l0_3.length c0_3, .slice A0_4 l0_4.length c0_4] 31 (0, 0)) (vk_ BK1001)) : gb1001 ≠ gb1005)); have NB1005_1001 := am_ ((by rw [hg]; exact Nat.ne_of_gt (blk_lt (g := gb1001) (o := .cells #[.int .i64 a0_0, .int .i64 a0_1, .int .i64 a0_2, .slice (some ad1004) l0_3.length c0_3, .slice A0_4 l0_4.length c0_4] 31 (0, 0)) (vk_ BK1001)) : gb1005 ≠ gb1001)); replace BK1001 := am_ (blk_below (g := gb1001) (vk_ BK1001) hb); replace HB := am_ (below_step bg_ hb); have GE1005 := GW1005; clear hb hbox hg; have hnb42 := NB1005_1001.out; have hnc42 := NB1001_1005.out; have hcz43_0 := bc2_0 BK1005; have hcz43_1 := bc2_1 BK1005; have hfz43_0 := bf_ BK1005 0; have hfz43_1 := bf_ BK1005 1; have p1006 : 0 ≤ (0 : Int) := (by omega); have q1006 : 0 < (((rd_T83 l0_3 x50_2).f1).length : Int) := od_; obtain ⟨ad1006, e1006, hx1006_0, hx1006_1⟩ := at_T85 HR1004_1.out 0 p1006 q1006; cases e1006; have qi1006 : (0 < ((rd_T83 l0_3 x50_2).f1).length) = True := eq_true (by omega); (try rw [show ((0 : Int)).toNat = 0 from rfl] at hx1006_0); (try rw [show 0 * 2 = 0 from rfl] at hx1006_0); (try rw [Addr.add_zero'] at hx1006_0); (try rw [show ((0 : Int)).toNat = 0 from rfl] at hx1006_1); (try rw [show 0 * 2 = 0 from rfl] at hx1006_1); (try rw [Addr.add_zero'] at hx1006_1); have hn1006_0 : ad1006.block ≠ gb1005 := hb_ hx1006_0 GW1005; have hn1006_1 : ad1006.block ≠ gb1005 := hb_ hx1006_0 GW1005; replace hx1006_0 := kp_ HB hx1006_0; replace hx1006_1 := kp_ HB hx1006_1; replace hx1006_0 := cf_ gb1005 0 hn1006_0 (.slice A1004_0 ((rd_T83 l0_3 x50_2).f0).length c1004_0) hx1006_0; replace hx1006_1 := cf_ gb1005 0 hn1006_0 (.slice A1004_0 ((rd_T83 l0_3 x50_2).f0).length c1004_0) hx1006_1; replace hx1006_0 := cf_ gb1005 1 hn1006_1 (.slice (some ad1006) ((rd_T83 l0_3 x50_2).f1).length c1004_1) hx1006_0; replace hx1006_1 := cf_ gb1005 1 hn1006_1 (.slice (some ad1006) ((rd_T83 l0_3 x50_2).f1).length c1004_1) hx1006_1; (try have hy1006_0 := fun (n_ : Nat) => (show ((((w41.drewN n_).setCell ⟨gb1005, 0, none⟩ (.slice A1004_0 ((rd_T83 l0_3 x50_2).f0).length c1004_0)).setCell ⟨gb1005, 1, none⟩ (.slice (some ad1006) ((rd_T83 l0_3 x50_2).f1).length c1004_1))).cell? _ = some _ from hx1006_0)); (try have hy1006_1 := fun (n_ : Nat) => (show ((((w41.drewN n_).setCell ⟨gb1005, 0, none⟩ (.slice A1004_0 ((rd_T83 l0_3 x50_2).f0).length c1004_0)).setCell ⟨gb1005, 1, none⟩ (.slice (some ad1006) ((rd_T83 l0_3 x50_2).f1).length c1004_1))).cell? _ = some _ from hx1006_1)); clear hn1006_0; clear hn1006_1; replace p1006 := eq_true p1006; replace q1006 := eq_true q1006; have hcz44_0 := bc5_0 BK1001; have hcz44_1 := bc5_1 BK1001; have hcz44_2 := bc5_2 BK1001; have hcz44_3 := bc5_3 BK1001; have hcz44_4 := bc5_4 BK1001; have hfz44_0 := bf_ BK1001 0; have hfz44_1 := bf_ BK1001 1; have hfz44_2 := bf_ BK1001 2; have hfz44_3 := bf_ BK1001 3; have hfz44_4 := bf_ BK1001 4; have p1007 : 0 ≤ ((ji33) : Int) := od_; have q1007 : (ji33) < (((rd_T83 l0_3 x50_2).f1).length : Int) := od_; obtain ⟨ad1007, e1007, hx1007_0, hx1007_1⟩ := at_T85 HR1004_1.out (ji33) p1007 q1007; obtain rfl : ad1006 = ad1007 := (by injection e1007); have hn1007_0 : ad1006.block ≠ gb1005 := hb_ hx1007_0 GW1005; have hn1007_1 : ad1006.block ≠ gb1005 := hb_ hx1007_0 GW1005; replace hx1007_0 := kp_ HB hx1007_0; replace hx1007_1 := kp_ HB hx1007_1; replace hx1007_0 := cf_ gb1005 0 hn1007_0 (.slice A1004_0 ((rd_T83 l0_3 x50_2).f0).length c1004_0) hx1007_0; replace hx1007_1 := cf_ gb1005 0 hn1007_0 (.slice A1004_0 ((rd_T83 l0_3 x50_2).f0).length c1004_0) hx1007_1; replace hx1007_0 := cf_ gb1005 1 hn1007_1 (.slice (some ad1006) ((rd_T83 l0_3 x50_2).f1).length c1004_1) hx1007_0; replace hx1007_1 := cf_ gb1005 1 hn1007_1 (.slice (some ad1006) ((rd_T83 l0_3 x50_2).f1).length c1004_1) hx1007_1; (try have hy1007_0 := fun (n_ : Nat) => (show ((((w41.drewN n_).setCell ⟨gb1005, 0, none⟩ (.slice A1004_0 ((rd_T83 l0_3 x50_2).f0).length c1004_0)).setCell ⟨gb1005, 1, none⟩ (.slice (some ad1006) ((rd_T83 l0_3 x50_2).f1).length c1004_1))).cell? _ = some _ from hx1007_0)); (try have hy1007_1 := fun (n_ : Nat) => (show ((((w41.drewN n_).setCell ⟨gb1005, 0, none⟩ (.slice A1004_0 ((rd_T83 l0_3 x50_2).f0).length c1004_0)).setCell ⟨gb1005, 1, none⟩ (.slice (some ad1006) ((rd_T83 l0_3 x50_2).f1).length c1004_1))).cell? _ = some _ from hx1007_1)); clear hn1007_0; clear hn1007_1; replace p1007 := eq_true p1007; replace q1007 := eq_true q1007)); try go_wp2)
              go_roundg k2
              case measure => have := HJ1.out; have := HK2.out; omega
              case rel => exact ⟨(wrap64 (x50_2 + 1)), rs_, H', ⟨by have := HJ1.out; have := HK2.out; omega⟩, ⟨by (with_reducible repeat (first | refine blk_drewN ?_ _ | refine blk_drew ?_ | refine blk_alloc ?_ _)); refine blk_far ?_ NB1001_1005.out _; (with_reducible repeat (first | refine blk_drewN ?_ _ | refine blk_drew ?_ | refine blk_alloc ?_ _)); refine blk_far ?_ NB1001_1005.out _; (with_reducible repeat (first | refine blk_drewN ?_ _ | refine blk_drew ?_ | refine blk_alloc ?_ _)); exact BK1001.out⟩, ⟨bg_⟩⟩
            ·rw [if_neg c35] at H
             exact absurd H (by simp)
           ·rw [if_neg c34] at H
            exact absurd H (by simp)
         ·rw [if_neg c27] at H
          exact absurd H (by simp)
        ·rw [if_neg c26] at H
         exact absurd H (by simp)
       ·rw [if_neg c25] at H
        exact absurd H (by simp)
      ·rw [if_neg c24] at H
       have c24b0 : decide (x50_2 < (l0_3.length : Int)) = false := decide_eq_false c24
       clear c24
       have H' := am_ H
       clear H
       have hcz45_0 := bc5_0 BK1001
       have hcz45_1 := bc5_1 BK1001
       have hcz45_2 := bc5_2 BK1001
       have hcz45_3 := bc5_3 BK1001
       have hcz45_4 := bc5_4 BK1001
       have hfz45_0 := bf_ BK1001 0
       have hfz45_1 := bf_ BK1001 1
       have hfz45_2 := bf_ BK1001 2
       have hfz45_3 := bf_ BK1001 3
       have hfz45_4 := bf_ BK1001 4
       go_wp2
       repeat (go_quiet (fail); try go_wp2)
       go_loopg [80] k2 (fun kq v80 w' => ∃ (x80_3 : Int), v80 = .int .i64 x80_3 ∧ Aside0 (spec_GoodBlock.l1 kq l0_4 (l0_4.length : Int) x80_3 a0_0 a0_1 a0_2 l0_3 l0_4 = some r) ∧ Aside0 (kq ≤ k2) ∧ Aside0 (w'.heap[gb1001]? = some (.cells #[.int .i64 a0_0, .int .i64 a0_1, .int .i64 a0_2, (.slice A0_3 l0_3.length c0_3), (.slice A0_4 l0_4.length c0_4)] 31 (0, 0))) ∧ Aside0 (Below w.heap.size w w'))
       case atStart => exact ⟨(0), rs_, H', ⟨Nat.le_refl _⟩, ⟨vk_ BK1001⟩, ⟨bg_⟩⟩
       case round =>
        clear H'
        try clear c1
        try clear p1
        try clear q1
        try clear hx1
        try clear qi1
        try clear c2
        try clear p2
        try clear c3
        try clear c4
        try clear c5
        try clear c6
        try clear c6b0
        try clear p6
        try clear c8
        try clear c8b0
        try clear c9
        try clear c10
        try clear c10b0
        try clear p10
        try clear q10
        try clear hx10
        try clear qi10
        try clear c12
        try clear c12b0
        try clear c15
        try clear c22
        try clear c24
        try clear c24b0
        try clear c25
        try clear c25b0
        try clear c26
        try clear c26b0
        try clear c27
        try clear c27b0
        try clear c27b1
        try clear c28
        try clear c28b0
        try clear c30
        try clear c34
        try clear c34b0
        try clear c35
        try clear c35b0
        try clear c36
        try clear c36b0
        try clear c38
        try clear c42
        try clear hcz11_0
        try clear hcz11_1
        try clear hcz11_2
        try clear hcz11_3
        try clear hcz11_4
        try clear hcz13_0
        try clear hcz13_1
        try clear hcz13_2
        try clear hcz13_3
        try clear hcz13_4
        try clear hcz16_0
        try clear hcz16_1
        try clear hcz16_2
        try clear hcz16_3
        try clear hcz16_4
        try clear hcz18_0
        try clear hcz18_1
        try clear hcz18_2
        try clear hcz18_3
        try clear hcz18_4
        try clear hcz19_0
        try clear hcz19_1
        try clear hcz19_2
        try clear hcz19_3
        try clear hcz19_4
        try clear hcz21_0
        try clear hcz21_1
        try clear hcz21_2
        try clear hcz21_3
        try clear hcz21_4
        try clear hcz23_0
        try clear hcz23_1
        try clear hcz23_2
        try clear hcz23_3
        try clear hcz23_4
        try clear hcz31_0
        try clear hcz31_1
        try clear hcz32_0
        try clear hcz32_1
        try clear hcz32_2
        try clear hcz32_3
        try clear hcz32_4
        try clear hcz39_0
        try clear hcz39_1
        try clear hcz40_0
        try clear hcz40_1
        try clear hcz40_2
        try clear hcz40_3
        try clear hcz40_4
        try clear hcz43_0
        try clear hcz43_1
        try clear hcz44_0
        try clear hcz44_1
        try clear hcz44_2
        try clear hcz44_3
        try clear hcz44_4
        try clear hcz45_0
        try clear hcz45_1
        try clear hcz45_2
        try clear hcz45_3
        try clear hcz45_4
        try clear hcz7_0
        try clear hcz7_1
        try clear hcz7_2
        try clear hcz7_3
        try clear hcz7_4
        try clear hcz9_0
        try clear hcz9_1
        try clear hcz9_2
        try clear hcz9_3
        try clear hcz9_4
        try clear hfz11_0
        try clear hfz11_1
        try clear hfz11_2
        try clear hfz11_3
        try clear hfz11_4
        try clear hfz13_0
        try clear hfz13_1
        try clear hfz13_2
        try clear hfz13_3
        try clear hfz13_4
        try clear hfz16_0
        try clear hfz16_1
        try clear hfz16_2
        try clear hfz16_3
        try clear hfz16_4
        try clear hfz18_0
        try clear hfz18_1
        try clear hfz18_2
        try clear hfz18_3
        try clear hfz18_4
        try clear hfz19_0
        try clear hfz19_1
        try clear hfz19_2
        try clear hfz19_3
        try clear hfz19_4
        try clear hfz21_0
        try clear hfz21_1
        try clear hfz21_2
        try clear hfz21_3
        try clear hfz21_4
        try clear hfz23_0
        try clear hfz23_1
        try clear hfz23_2
        try clear hfz23_3
        try clear hfz23_4
        try clear hfz31_0
        try clear hfz31_1
        try clear hfz32_0
        try clear hfz32_1
        try clear hfz32_2
        try clear hfz32_3
        try clear hfz32_4
        try clear hfz39_0
        try clear hfz39_1
        try clear hfz40_0
        try clear hfz40_1
        try clear hfz40_2
        try clear hfz40_3
        try clear hfz40_4
        try clear hfz43_0
        try clear hfz43_1
        try clear hfz44_0
        try clear hfz44_1
        try clear hfz44_2
        try clear hfz44_3
        try clear hfz44_4
        try clear hfz45_0
        try clear hfz45_1
        try clear hfz45_2
        try clear hfz45_3
        try clear hfz45_4
        try clear hfz7_0
        try clear hfz7_1
        try clear hfz7_2
        try clear hfz7_3
        try clear hfz7_4
        try clear hfz9_0
        try clear hfz9_1
        try clear hfz9_2
        try clear hfz9_3
        try clear hfz9_4
        try clear hx1004_0
        try clear hx1004_1
        try clear hx1006_0
        try clear hx1006_1
        try clear hx1007_0
        try clear hx1007_1
        try clear p1004
        try clear p1006
        try clear p1007
        try clear p2
        try clear q1004
        try clear q1006
        try clear q1007
        obtain ⟨x80_3, rfl, HA, HK3, BK1001, HB⟩ := hrel
        cases gk with
        | zero => exact absurd HA.out (by simp [spec_GoodBlock.l1])
        | succ k3 =>
         have H := HA.out
         clear HA
         simp only [spec_GoodBlock.l1] at H
         by_cases c46 : x80_3 < (l0_4.length : Int)
         ·rw [if_pos c46] at H
          have c46b0 : decide (x80_3 < (l0_4.length : Int)) = true := decide_eq_true c46
          clear c46
          by_cases c47 : 0 ≤ x80_3
          ·rw [if_pos c47] at H
           have c47b0 : decide (0 ≤ x80_3) = true := decide_eq_true c47
           clear c47
           by_cases c48 : x80_3 < (l0_4.length : Int)
           ·rw [if_pos c48] at H
            have c48b0 : decide (x80_3 < (l0_4.length : Int)) = true := decide_eq_true c48
            clear c48
            have HC49 := am_ H
            clear H
            have p1008 : 0 ≤ (x80_3 : Int) := od_
            have q1008 : x80_3 < (l0_4.length : Int) := od_
            obtain ⟨ad1008, A1008_0, c1008_0, e1008, hx1008_0, hx1008_1, hx1008_2, hl1008_0, hi1008_0⟩ := at_T87 HR0_4.out x80_3 p1008 q1008
            cases e1008
            replace hx1008_0 := kp_ HB hx1008_0
            replace hx1008_1 := kp_ HB hx1008_1
            replace hx1008_2 := kp_ HB hx1008_2
            have HR1008_0 := am_ hi1008_0
            have HC1008_0 := am_ hl1008_0
            clear hi1008_0 hl1008_0
            replace p1008 := eq_true p1008
            replace q1008 := eq_true q1008
            go_upto_region 12 with (first | ((with_reducible refine gate_dst (N := 6) rfl ?_); (try (refine gate_guard (by rfl) ?_; dsimp only)); refine bx_ 6 #[.slice none 0 0, .int .i64 0, .int .i64 0] 87 ?_; intro gb1009 hg w50 hbox hb; have BK1009 := am_ (hbox); have GW1009 := am_ (gg_ hg : w.heap.size ≤ gb1009); have NB1001_1009 := am_ ((by rw [hg]; exact Nat.ne_of_lt (blk_lt (g := gb1001) (o := .cells #[.int .i64 a0_0, .int .i64 a0_1, .int .i64 a0_2, .slice A0_3 l0_3.length c0_3, .slice (some ad1008) l0_4.length c0_4] 31 (0, 0)) (vk_ BK1001)) : gb1001 ≠ gb1009)); have NB1009_1001 := am_ ((by rw [hg]; exact Nat.ne_of_gt (blk_lt (g := gb1001) (o := .cells #[.int .i64 a0_0, .int .i64 a0_1, .int .i64 a0_2, .slice A0_3 l0_3.length c0_3, .slice (some ad1008) l0_4.length c0_4] 31 (0, 0)) (vk_ BK1001)) : gb1009 ≠ gb1001)); replace BK1001 := am_ (blk_below (g := gb1001) (vk_ BK1001) hb); replace HB := am_ (below_step bg_ hb); have GE1009 := GW1009; clear hb hbox hg; have hnb51 := NB1009_1001.out; have hnc51 := NB1001_1009.out; have hcz52_0 := bc3_0 BK1009; have hcz52_1 := bc3_1 BK1009; have hcz52_2 := bc3_2 BK1009; have hfz52_0 := bf_ BK1009 0; have hfz52_1 := bf_ BK1009 1; have hfz52_2 := bf_ BK1009 2))
            repeat (go_quiet (first | ((with_reducible refine gate_dst (N := 6) rfl ?_); (try (refine gate_guard (by rfl) ?_; dsimp only)); refine bx_ 6 #[.slice none 0 0, .int .i64 0, .int .i64 0] 87 ?_; intro gb1009 hg w50 hbox hb; have BK1009 := am_ (hbox); have GW1009 := am_ (gg_ hg : w.heap.size ≤ gb1009); have NB1001_1009 := am_ ((by rw [hg]; exact Nat.ne_of_lt (blk_lt (g := gb1001) (o := .cells #[.int .i64 a0_0, .int .i64 a0_1, .int .i64 a0_2, .slice A0_3 l0_3.length c0_3, .slice (some ad1008) l0_4.length c0_4] 31 (0, 0)) (vk_ BK1001)) : gb1001 ≠ gb1009)); have NB1009_1001 := am_ ((by rw [hg]; exact Nat.ne_of_gt (blk_lt (g := gb1001) (o := .cells #[.int .i64 a0_0, .int .i64 a0_1, .int .i64 a0_2, .slice A0_3 l0_3.length c0_3, .slice (some ad1008) l0_4.length c0_4] 31 (0, 0)) (vk_ BK1001)) : gb1009 ≠ gb1001)); replace BK1001 := am_ (blk_below (g := gb1001) (vk_ BK1001) hb); replace HB := am_ (below_step bg_ hb); have GE1009 := GW1009; clear hb hbox hg; have hnb51 := NB1009_1001.out; have hnc51 := NB1001_1009.out; have hcz52_0 := bc3_0 BK1009; have hcz52_1 := bc3_1 BK1009; have hcz52_2 := bc3_2 BK1009; have hfz52_0 := bf_ BK1009 0; have hfz52_1 := bf_ BK1009 1; have hfz52_2 := bf_ BK1009 2)); go_upto_region 12 with (first | ((with_reducible refine gate_dst (N := 6) rfl ?_); (try (refine gate_guard (by rfl) ?_; dsimp only)); refine bx_ 6 #[.slice none 0 0, .int .i64 0, .int .i64 0] 87 ?_; intro gb1009 hg w50 hbox hb; have BK1009 := am_ (hbox); have GW1009 := am_ (gg_ hg : w.heap.size ≤ gb1009); have NB1001_1009 := am_ ((by rw [hg]; exact Nat.ne_of_lt (blk_lt (g := gb1001) (o := .cells #[.int .i64 a0_0, .int .i64 a0_1, .int .i64 a0_2, .slice A0_3 l0_3.length c0_3, .slice (some ad1008) l0_4.length c0_4] 31 (0, 0)) (vk_ BK1001)) : gb1001 ≠ gb1009)); have NB1009_1001 := am_ ((by rw [hg]; exact Nat.ne_of_gt (blk_lt (g := gb1001) (o := .cells #[.int .i64 a0_0, .int .i64 a0_1, .int .i64 a0_2, .slice A0_3 l0_3.length c0_3, .slice (some ad1008) l0_4.length c0_4] 31 (0, 0)) (vk_ BK1001)) : gb1009 ≠ gb1001)); replace BK1001 := am_ (blk_below (g := gb1001) (vk_ BK1001) hb); replace HB := am_ (below_step bg_ hb); have GE1009 := GW1009; clear hb hbox hg; have hnb51 := NB1009_1001.out; have hnc51 := NB1001_1009.out; have hcz52_0 := bc3_0 BK1009; have hcz52_1 := bc3_1 BK1009; have hcz52_2 := bc3_2 BK1009; have hfz52_0 := bf_ BK1009 0; have hfz52_1 := bf_ BK1009 1; have hfz52_2 := bf_ BK1009 2)))
            (try simp only [Act.put, List.setIfInBounds_toArray, List.set_cons_zero, List.set_cons_succ])
            go_cut [117] (fun v117 wc => ∃ (kq : Nat) (x117_48 : Bool), v117 = .bool x117_48 ∧ Aside0 (spec_GoodBlock.j3 kq x80_3 l0_4 (l0_4.length : Int) x80_3 x117_48 a0_0 a0_1 a0_2 l0_3 l0_4 ((rd_T87 l0_4 x80_3).f0) ((rd_T87 l0_4 x80_3).f1) ((rd_T87 l0_4 x80_3).f2) = some r) ∧ Aside0 (kq ≤ k3) ∧ Aside0 (wc.heap[gb1001]? = some (.cells #[.int .i64 a0_0, .int .i64 a0_1, .int .i64 a0_2, (.slice A0_3 l0_3.length c0_3), (.slice (some ad1008) l0_4.length c0_4)] 31 (0, 0))) ∧ Aside0 (wc.heap[gb1009]? = some (.cells #[(.slice A1008_0 ((rd_T87 l0_4 x80_3).f0).length c1008_0), .int .i64 ((rd_T87 l0_4 x80_3).f1), .int .i64 ((rd_T87 l0_4 x80_3).f2)] 87 (0, 0))) ∧ Aside0 (Below w.heap.size w wc))
            case first =>
             have H := HC49.out
             clear HC49
             replace H := Option.bind_eq_some_iff.mp H
             obtain ⟨t1010, A530, H⟩ := H
             replace H : (if t1010 = true then ((spec_l9Has.f k3 l0_3 ((rd_T87 l0_4 x80_3).f0)).bind fun t1011 => (if t1011 = true then (if ((rd_T87 l0_4 x80_3).f1) < a0_0 then (spec_GoodBlock.j3 k3 x80_3 l0_4 (l0_4.length : Int) x80_3 true a0_0 a0_1 a0_2 l0_3 l0_4 ((rd_T87 l0_4 x80_3).f0) ((rd_T87 l0_4 x80_3).f1) ((rd_T87 l0_4 x80_3).f2)) else (if ((rd_T87 l0_4 x80_3).f2) ≥ a0_1 then (spec_GoodBlock.j3 k3 x80_3 l0_4 (l0_4.length : Int) x80_3 true a0_0 a0_1 a0_2 l0_3 l0_4 ((rd_T87 l0_4 x80_3).f0) ((rd_T87 l0_4 x80_3).f1) ((rd_T87 l0_4 x80_3).f2)) else (spec_GoodBlock.j3 k3 x80_3 l0_4 (l0_4.length : Int) x80_3 (decide (((rd_T87 l0_4 x80_3).f1) > ((rd_T87 l0_4 x80_3).f2))) a0_0 a0_1 a0_2 l0_3 l0_4 ((rd_T87 l0_4 x80_3).f0) ((rd_T87 l0_4 x80_3).f1) ((rd_T87 l0_4 x80_3).f2)))) else (spec_GoodBlock.j3 k3 x80_3 l0_4 (l0_4.length : Int) x80_3 true a0_0 a0_1 a0_2 l0_3 l0_4 ((rd_T87 l0_4 x80_3).f0) ((rd_T87 l0_4 x80_3).f1) ((rd_T87 l0_4 x80_3).f2)))) else (spec_GoodBlock.j3 k3 x80_3 l0_4 (l0_4.length : Int) x80_3 true a0_0 a0_1 a0_2 l0_3 l0_4 ((rd_T87 l0_4 x80_3).f0) ((rd_T87 l0_4 x80_3).f1) ((rd_T87 l0_4 x80_3).f2))) = some r := H
             have A53 := am_ A530
             clear A530
             by_cases c54 : t1010 = true
             ·subst c54
              have H1 : ((spec_l9Has.f k3 l0_3 ((rd_T87 l0_4 x80_3).f0)).bind fun t1011 => (if t1011 = true then (if ((rd_T87 l0_4 x80_3).f1) < a0_0 then (spec_GoodBlock.j3 k3 x80_3 l0_4 (l0_4.length : Int) x80_3 true a0_0 a0_1 a0_2 l0_3 l0_4 ((rd_T87 l0_4 x80_3).f0) ((rd_T87 l0_4 x80_3).f1) ((rd_T87 l0_4 x80_3).f2)) else (if ((rd_T87 l0_4 x80_3).f2) ≥ a0_1 then (spec_GoodBlock.j3 k3 x80_3 l0_4 (l0_4.length : Int) x80_3 true a0_0 a0_1 a0_2 l0_3 l0_4 ((rd_T87 l0_4 x80_3).f0) ((rd_T87 l0_4 x80_3).f1) ((rd_T87 l0_4 x80_3).f2)) else (spec_GoodBlock.j3 k3 x80_3 l0_4 (l0_4.length : Int) x80_3 (decide (((rd_T87 l0_4 x80_3).f1) > ((rd_T87 l0_4 x80_3).f2))) a0_0 a0_1 a0_2 l0_3 l0_4 ((rd_T87 l0_4 x80_3).f0) ((rd_T87 l0_4 x80_3).f1) ((rd_T87 l0_4 x80_3).f2)))) else (spec_GoodBlock.j3 k3 x80_3 l0_4 (l0_4.length : Int) x80_3 true a0_0 a0_1 a0_2 l0_3 l0_4 ((rd_T87 l0_4 x80_3).f0) ((rd_T87 l0_4 x80_3).f1) ((rd_T87 l0_4 x80_3).f2)))) = some r := by rw [if_pos rfl] at H; exact H
              clear H
              have H := H1
              clear H1
              replace H := Option.bind_eq_some_iff.mp H
              obtain ⟨t1011, A550, H⟩ := H
              replace H : (if t1011 = true then (if ((rd_T87 l0_4 x80_3).f1) < a0_0 then (spec_GoodBlock.j3 k3 x80_3 l0_4 (l0_4.length : Int) x80_3 true a0_0 a0_1 a0_2 l0_3 l0_4 ((rd_T87 l0_4 x80_3).f0) ((rd_T87 l0_4 x80_3).f1) ((rd_T87 l0_4 x80_3).f2)) else (if ((rd_T87 l0_4 x80_3).f2) ≥ a0_1 then (spec_GoodBlock.j3 k3 x80_3 l0_4 (l0_4.length : Int) x80_3 true a0_0 a0_1 a0_2 l0_3 l0_4 ((rd_T87 l0_4 x80_3).f0) ((rd_T87 l0_4 x80_3).f1) ((rd_T87 l0_4 x80_3).f2)) else (spec_GoodBlock.j3 k3 x80_3 l0_4 (l0_4.length : Int) x80_3 (decide (((rd_T87 l0_4 x80_3).f1) > ((rd_T87 l0_4 x80_3).f2))) a0_0 a0_1 a0_2 l0_3 l0_4 ((rd_T87 l0_4 x80_3).f0) ((rd_T87 l0_4 x80_3).f1) ((rd_T87 l0_4 x80_3).f2)))) else (spec_GoodBlock.j3 k3 x80_3 l0_4 (l0_4.length : Int) x80_3 true a0_0 a0_1 a0_2 l0_3 l0_4 ((rd_T87 l0_4 x80_3).f0) ((rd_T87 l0_4 x80_3).f1) ((rd_T87 l0_4 x80_3).f2))) = some r := H
              have A55 := am_ A550
              clear A550
              by_cases c56 : t1011 = true
              ·subst c56
               have H1 : (if ((rd_T87 l0_4 x80_3).f1) < a0_0 then (spec_GoodBlock.j3 k3 x80_3 l0_4 (l0_4.length : Int) x80_3 true a0_0 a0_1 a0_2 l0_3 l0_4 ((rd_T87 l0_4 x80_3).f0) ((rd_T87 l0_4 x80_3).f1) ((rd_T87 l0_4 x80_3).f2)) else (if ((rd_T87 l0_4 x80_3).f2) ≥ a0_1 then (spec_GoodBlock.j3 k3 x80_3 l0_4 (l0_4.length : Int) x80_3 true a0_0 a0_1 a0_2 l0_3 l0_4 ((rd_T87 l0_4 x80_3).f0) ((rd_T87 l0_4 x80_3).f1) ((rd_T87 l0_4 x80_3).f2)) else (spec_GoodBlock.j3 k3 x80_3 l0_4 (l0_4.length : Int) x80_3 (decide (((rd_T87 l0_4 x80_3).f1) > ((rd_T87 l0_4 x80_3).f2))) a0_0 a0_1 a0_2 l0_3 l0_4 ((rd_T87 l0_4 x80_3).f0) ((rd_T87 l0_4 x80_3).f1) ((rd_T87 l0_4 x80_3).f2)))) = some r := by rw [if_pos rfl] at H; exact H
               clear H
               have H := H1
               clear H1
               by_cases c57 : ((rd_T87 l0_4 x80_3).f1) < a0_0
               ·rw [if_pos c57] at H
                have c57b0 : decide (((rd_T87 l0_4 x80_3).f1) < a0_0) = true := decide_eq_true c57
                clear c57
                (first | rw [c57b0] | (simp only [i64_w, i32_w]; rw [c57b0]) | skip)
                have H' := am_ H
                clear H
                have hnb58 := NB1009_1001.out
                have hnc58 := NB1001_1009.out
                have hcz59_0 := bc3_0 BK1009
                have hcz59_1 := bc3_1 BK1009
                have hcz59_2 := bc3_2 BK1009
                have hfz59_0 := bf_ BK1009 0
                have hfz59_1 := bf_ BK1009 1
                have hfz59_2 := bf_ BK1009 2
                go_wp2_with (first | (go_at_call 48; (with_reducible refine (spec_GoodLabels.calls k3 _ _ ((rd_T87 l0_4 x80_3).f0) true _ ?side1 ?side2 A53.out).mono ?_); (case side1 => exact Kd.C_below HR1008_0.out bg_); (case side2 => exact HC1008_0.out); rintro e w60 ⟨rfl, hb⟩; replace BK1001 := am_ (blk_below (g := gb1001) (o := .cells #[.int .i64 a0_0, .int .i64 a0_1, .int .i64 a0_2, .slice A0_3 l0_3.length c0_3, .slice (some ad1008) l0_4.length c0_4] 31 (0, 0)) (by (with_reducible repeat (first | refine blk_drewN ?_ _ | refine blk_drew ?_ | refine blk_alloc ?_ _)); refine blk_far ?_ NB1001_1009.out _; (with_reducible repeat (first | refine blk_drewN ?_ _ | refine blk_drew ?_ | refine blk_alloc ?_ _)); refine blk_far ?_ NB1001_1009.out _; (with_reducible repeat (first | refine blk_drewN ?_ _ | refine blk_drew ?_ | refine blk_alloc ?_ _)); refine blk_far ?_ NB1001_1009.out _; (with_reducible repeat (first | refine blk_drewN ?_ _ | refine blk_drew ?_ | refine blk_alloc ?_ _)); exact BK1001.out) hb); replace BK1009 := am_ (blk_below (g := gb1009) (o := .cells #[.slice A1008_0 ((rd_T87 l0_4 x80_3).f0).length c1008_0, .int .i64 ((rd_T87 l0_4 x80_3).f1), .int .i64 ((rd_T87 l0_4 x80_3).f2)] 87 (0, 0)) (by (with_reducible repeat (first | refine blk_drewN ?_ _ | refine blk_drew ?_ | refine blk_alloc ?_ _)); refine blk_put (cs := #[.slice A1008_0 ((rd_T87 l0_4 x80_3).f0).length c1008_0, .int .i64 ((rd_T87 l0_4 x80_3).f1), .int .i64 0]) ?_ 2 _ rfl; (with_reducible repeat (first | refine blk_drewN ?_ _ | refine blk_drew ?_ | refine blk_alloc ?_ _)); refine blk_put (cs := #[.slice A1008_0 ((rd_T87 l0_4 x80_3).f0).length c1008_0, .int .i64 0, .int .i64 0]) ?_ 1 _ rfl; (with_reducible repeat (first | refine blk_drewN ?_ _ | refine blk_drew ?_ | refine blk_alloc ?_ _)); refine blk_put (cs := #[.slice none 0 0, .int .i64 0, .int .i64 0]) ?_ 0 _ rfl; (with_reducible repeat (first | refine blk_drewN ?_ _ | refine blk_drew ?_ | refine blk_alloc ?_ _)); exact BK1009.out) hb); replace HB := am_ (below_step bg_ hb); (try clear hb); (try clear hb2); (try clear hk); (try clear hi); have hcz61_0 := bc5_0 BK1001; have hcz61_1 := bc5_1 BK1001; have hcz61_2 := bc5_2 BK1001; have hcz61_3 := bc5_3 BK1001; have hcz61_4 := bc5_4 BK1001; have hfz61_0 := bf_ BK1001 0; have hfz61_1 := bf_ BK1001 1; have hfz61_2 := bf_ BK1001 2; have hfz61_3 := bf_ BK1001 3; have hfz61_4 := bf_ BK1001 4; have hcz62_0 := bc3_0 BK1009; have hcz62_1 := bc3_1 BK1009; have hcz62_2 := bc3_2 BK1009; have hfz62_0 := bf_ BK1009 0; have hfz62_1 := bf_ BK1009 1; have hfz62_2 := bf_ BK1009 2) | (go_at_call 49; (with_reducible refine (spec_l9Has.calls k3 _ _ l0_3 _ _ ((rd_T87 l0_4 x80_3).f0) true _ ?side1 ?side2 ?side3 ?side4 A55.out).mono ?_); (case side1 => exact cc_ (Kd.C_below HR0_3.out HB.out)); (case side2 => exact HC0_3.out); (case side3 => exact cc_ (Kd.C_below HR1008_0.out HB.out)); (case side4 => exact HC1008_0.out); rintro e w63 ⟨rfl, hb⟩; replace BK1001 := am_ (blk_below (g := gb1001) (vk_ BK1001) hb); replace BK1009 := am_ (blk_below (g := gb1009) (vk_ BK1009) hb); replace HB := am_ (below_step bg_ hb); (try clear hb); (try clear hb2); (try clear hk); (try clear hi); have hcz64_0 := bc3_0 BK1009; have hcz64_1 := bc3_1 BK1009; have hcz64_2 := bc3_2 BK1009; have hfz64_0 := bf_ BK1009 0; have hfz64_1 := bf_ BK1009 1; have hfz64_2 := bf_ BK1009 2; have hcz65_0 := bc5_0 BK1001; have hcz65_1 := bc5_1 BK1001; have hcz65_2 := bc5_2 BK1001; have hcz65_3 := bc5_3 BK1001; have hcz65_4 := bc5_4 BK1001; have hfz65_0 := bf_ BK1001 0; have hfz65_1 := bf_ BK1001 1; have hfz65_2 := bf_ BK1001 2; have hfz65_3 := bf_ BK1001 3; have hfz65_4 := bf_ BK1001 4))
                repeat (go_quiet (first | (go_at_call 48; (with_reducible refine (spec_GoodLabels.calls k3 _ _ ((rd_T87 l0_4 x80_3).f0) true _ ?side1 ?side2 A53.out).mono ?_); (case side1 => exact Kd.C_below HR1008_0.out bg_); (case side2 => exact HC1008_0.out); rintro e w60 ⟨rfl, hb⟩; replace BK1001 := am_ (blk_below (g := gb1001) (o := .cells #[.int .i64 a0_0, .int .i64 a0_1, .int .i64 a0_2, .slice A0_3 l0_3.length c0_3, .slice (some ad1008) l0_4.length c0_4] 31 (0, 0)) (by (with_reducible repeat (first | refine blk_drewN ?_ _ | refine blk_drew ?_ | refine blk_alloc ?_ _)); refine blk_far ?_ NB1001_1009.out _; (with_reducible repeat (first | refine blk_drewN ?_ _ | refine blk_drew ?_ | refine blk_alloc ?_ _)); refine blk_far ?_ NB1001_1009.out _; (with_reducible repeat (first | refine blk_drewN ?_ _ | refine blk_drew ?_ | refine blk_alloc ?_ _)); refine blk_far ?_ NB1001_1009.out _; (with_reducible repeat (first | refine blk_drewN ?_ _ | refine blk_drew ?_ | refine blk_alloc ?_ _)); exact BK1001.out) hb); replace BK1009 := am_ (blk_below (g := gb1009) (o := .cells #[.slice A1008_0 ((rd_T87 l0_4 x80_3).f0).length c1008_0, .int .i64 ((rd_T87 l0_4 x80_3).f1), .int .i64 ((rd_T87 l0_4 x80_3).f2)] 87 (0, 0)) (by (with_reducible repeat (first | refine blk_drewN ?_ _ | refine blk_drew ?_ | refine blk_alloc ?_ _)); refine blk_put (cs := #[.slice A1008_0 ((rd_T87 l0_4 x80_3).f0).length c1008_0, .int .i64 ((rd_T87 l0_4 x80_3).f1), .int .i64 0]) ?_ 2 _ rfl; (with_reducible repeat (first | refine blk_drewN ?_ _ | refine blk_drew ?_ | refine blk_alloc ?_ _)); refine blk_put (cs := #[.slice A1008_0 ((rd_T87 l0_4 x80_3).f0).length c1008_0, .int .i64 0, .int .i64 0]) ?_ 1 _ rfl; (with_reducible repeat (first | refine blk_drewN ?_ _ | refine blk_drew ?_ | refine blk_alloc ?_ _)); refine blk_put (cs := #[.slice none 0 0, .int .i64 0, .int .i64 0]) ?_ 0 _ rfl; (with_reducible repeat (first | refine blk_drewN ?_ _ | refine blk_drew ?_ | refine blk_alloc ?_ _)); exact BK1009.out) hb); replace HB := am_ (below_step bg_ hb); (try clear hb); (try clear hb2); (try clear hk); (try clear hi); have hcz61_0 := bc5_0 BK1001; have hcz61_1 := bc5_1 BK1001; have hcz61_2 := bc5_2 BK1001; have hcz61_3 := bc5_3 BK1001; have hcz61_4 := bc5_4 BK1001; have hfz61_0 := bf_ BK1001 0; have hfz61_1 := bf_ BK1001 1; have hfz61_2 := bf_ BK1001 2; have hfz61_3 := bf_ BK1001 3; have hfz61_4 := bf_ BK1001 4; have hcz62_0 := bc3_0 BK1009; have hcz62_1 := bc3_1 BK1009; have hcz62_2 := bc3_2 BK1009; have hfz62_0 := bf_ BK1009 0; have hfz62_1 := bf_ BK1009 1; have hfz62_2 := bf_ BK1009 2) | (go_at_call 49; (with_reducible refine (spec_l9Has.calls k3 _ _ l0_3 _ _ ((rd_T87 l0_4 x80_3).f0) true _ ?side1 ?side2 ?side3 ?side4 A55.out).mono ?_); (case side1 => exact cc_ (Kd.C_below HR0_3.out HB.out)); (case side2 => exact HC0_3.out); (case side3 => exact cc_ (Kd.C_below HR1008_0.out HB.out)); (case side4 => exact HC1008_0.out); rintro e w63 ⟨rfl, hb⟩; replace BK1001 := am_ (blk_below (g := gb1001) (vk_ BK1001) hb); replace BK1009 := am_ (blk_below (g := gb1009) (vk_ BK1009) hb); replace HB := am_ (below_step bg_ hb); (try clear hb); (try clear hb2); (try clear hk); (try clear hi); have hcz64_0 := bc3_0 BK1009; have hcz64_1 := bc3_1 BK1009; have hcz64_2 := bc3_2 BK1009; have hfz64_0 := bf_ BK1009 0; have hfz64_1 := bf_ BK1009 1; have hfz64_2 := bf_ BK1009 2; have hcz65_0 := bc5_0 BK1001; have hcz65_1 := bc5_1 BK1001; have hcz65_2 := bc5_2 BK1001; have hcz65_3 := bc5_3 BK1001; have hcz65_4 := bc5_4 BK1001; have hfz65_0 := bf_ BK1001 0; have hfz65_1 := bf_ BK1001 1; have hfz65_2 := bf_ BK1001 2; have hfz65_3 := bf_ BK1001 3; have hfz65_4 := bf_ BK1001 4)); try go_wp2)
                go_meet
                case rel => exact ⟨_, (true), rs_, H', ⟨by have := HJ1.out; have := HK2.out; have := HK3.out; first | omega | exact Nat.le_refl _⟩, ⟨vk_ BK1001⟩, ⟨vk_ BK1009⟩, ⟨bg_⟩⟩
               ·rw [if_neg c57] at H
                have c57b0 : decide (((rd_T87 l0_4 x80_3).f1) < a0_0) = false := decide_eq_false c57
                clear c57
                (first | rw [c57b0] | (simp only [i64_w, i32_w]; rw [c57b0]) | skip)
                by_cases c66 : ((rd_T87 l0_4 x80_3).f2) ≥ a0_1
                ·rw [if_pos c66] at H
                 have c66b0 : decide (a0_1 ≤ ((rd_T87 l0_4 x80_3).f2)) = true := decide_eq_true c66
                 clear c66
                 have H' := am_ H
                 clear H
                 have hnb67 := NB1009_1001.out
                 have hnc67 := NB1001_1009.out
                 have hcz68_0 := bc3_0 BK1009
                 have hcz68_1 := bc3_1 BK1009
                 have hcz68_2 := bc3_2 BK1009
                 have hfz68_0 := bf_ BK1009 0
                 have hfz68_1 := bf_ BK1009 1
                 have hfz68_2 := bf_ BK1009 2
                 go_wp2_with (first | (go_at_call 48; (with_reducible refine (spec_GoodLabels.calls k3 _ _ ((rd_T87 l0_4 x80_3).f0) true _ ?side1 ?side2 A53.out).mono ?_); (case side1 => exact Kd.C_below HR1008_0.out bg_); (case side2 => exact HC1008_0.out); rintro e w69 ⟨rfl, hb⟩; replace BK1001 := am_ (blk_below (g := gb1001) (o := .cells #[.int .i64 a0_0, .int .i64 a0_1, .int .i64 a0_2, .slice A0_3 l0_3.length c0_3, .slice (some ad1008) l0_4.length c0_4] 31 (0, 0)) (by (with_reducible repeat (first | refine blk_drewN ?_ _ | refine blk_drew ?_ | refine blk_alloc ?_ _)); refine blk_far ?_ NB1001_1009.out _; (with_reducible repeat (first | refine blk_drewN ?_ _ | refine blk_drew ?_ | refine blk_alloc ?_ _)); refine blk_far ?_ NB1001_1009.out _; (with_reducible repeat (first | refine blk_drewN ?_ _ | refine blk_drew ?_ | refine blk_alloc ?_ _)); refine blk_far ?_ NB1001_1009.out _; (with_reducible repeat (first | refine blk_drewN ?_ _ | refine blk_drew ?_ | refine blk_alloc ?_ _)); exact BK1001.out) hb); replace BK1009 := am_ (blk_below (g := gb1009) (o := .cells #[.slice A1008_0 ((rd_T87 l0_4 x80_3).f0).length c1008_0, .int .i64 ((rd_T87 l0_4 x80_3).f1), .int .i64 ((rd_T87 l0_4 x80_3).f2)] 87 (0, 0)) (by (with_reducible repeat (first | refine blk_drewN ?_ _ | refine blk_drew ?_ | refine blk_alloc ?_ _)); refine blk_put (cs := #[.slice A1008_0 ((rd_T87 l0_4 x80_3).f0).length c1008_0, .int .i64 ((rd_T87 l0_4 x80_3).f1), .int .i64 0]) ?_ 2 _ rfl; (with_reducible repeat (first | refine blk_drewN ?_ _ | refine blk_drew ?_ | refine blk_alloc ?_ _)); refine blk_put (cs := #[.slice A1008_0 ((rd_T87 l0_4 x80_3).f0).length c1008_0, .int .i64 0, .int .i64 0]) ?_ 1 _ rfl; (with_reducible repeat (first | refine blk_drewN ?_ _ | refine blk_drew ?_ | refine blk_alloc ?_ _)); refine blk_put (cs := #[.slice none 0 0, .int .i64 0, .int .i64 0]) ?_ 0 _ rfl; (with_reducible repeat (first | refine blk_drewN ?_ _ | refine blk_drew ?_ | refine blk_alloc ?_ _)); exact BK1009.out) hb); replace HB := am_ (below_step bg_ hb); (try clear hb); (try clear hb2); (try clear hk); (try clear hi); have hcz70_0 := bc5_0 BK1001; have hcz70_1 := bc5_1 BK1001; have hcz70_2 := bc5_2 BK1001; have hcz70_3 := bc5_3 BK1001; have hcz70_4 := bc5_4 BK1001; have hfz70_0 := bf_ BK1001 0; have hfz70_1 := bf_ BK1001 1; have hfz70_2 := bf_ BK1001 2; have hfz70_3 := bf_ BK1001 3; have hfz70_4 := bf_ BK1001 4; have hcz71_0 := bc3_0 BK1009; have hcz71_1 := bc3_1 BK1009; have hcz71_2 := bc3_2 BK1009; have hfz71_0 := bf_ BK1009 0; have hfz71_1 := bf_ BK1009 1; have hfz71_2 := bf_ BK1009 2) | (go_at_call 49; (with_reducible refine (spec_l9Has.calls k3 _ _ l0_3 _ _ ((rd_T87 l0_4 x80_3).f0) true _ ?side1 ?side2 ?side3 ?side4 A55.out).mono ?_); (case side1 => exact cc_ (Kd.C_below HR0_3.out HB.out)); (case side2 => exact HC0_3.out); (case side3 => exact cc_ (Kd.C_below HR1008_0.out HB.out)); (case side4 => exact HC1008_0.out); rintro e w72 ⟨rfl, hb⟩; replace BK1001 := am_ (blk_below (g := gb1001) (vk_ BK1001) hb); replace BK1009 := am_ (blk_below (g := gb1009) (vk_ BK1009) hb); replace HB := am_ (below_step bg_ hb); (try clear hb); (try clear hb2); (try clear hk); (try clear hi); have hcz73_0 := bc3_0 BK1009; have hcz73_1 := bc3_1 BK1009; have hcz73_2 := bc3_2 BK1009; have hfz73_0 := bf_ BK1009 0; have hfz73_1 := bf_ BK1009 1; have hfz73_2 := bf_ BK1009 2; have hcz74_0 := bc5_0 BK1001; have hcz74_1 := bc5_1 BK1001; have hcz74_2 := bc5_2 BK1001; have hcz74_3 := bc5_3 BK1001; have hcz74_4 := bc5_4 BK1001; have hfz74_0 := bf_ BK1001 0; have hfz74_1 := bf_ BK1001 1; have hfz74_2 := bf_ BK1001 2; have hfz74_3 := bf_ BK1001 3; have hfz74_4 := bf_ BK1001 4))
                 repeat (go_quiet (first | (go_at_call 48; (with_reducible refine (spec_GoodLabels.calls k3 _ _ ((rd_T87 l0_4 x80_3).f0) true _ ?side1 ?side2 A53.out).mono ?_); (case side1 => exact Kd.C_below HR1008_0.out bg_); (case side2 => exact HC1008_0.out); rintro e w69 ⟨rfl, hb⟩; replace BK1001 := am_ (blk_below (g := gb1001) (o := .cells #[.int .i64 a0_0, .int .i64 a0_1, .int .i64 a0_2, .slice A0_3 l0_3.length c0_3, .slice (some ad1008) l0_4.length c0_4] 31 (0, 0)) (by (with_reducible repeat (first | refine blk_drewN ?_ _ | refine blk_drew ?_ | refine blk_alloc ?_ _)); refine blk_far ?_ NB1001_1009.out _; (with_reducible repeat (first | refine blk_drewN ?_ _ | refine blk_drew ?_ | refine blk_alloc ?_ _)); refine blk_far ?_ NB1001_1009.out _; (with_reducible repeat (first | refine blk_drewN ?_ _ | refine blk_drew ?_ | refine blk_alloc ?_ _)); refine blk_far ?_ NB1001_1009.out _; (with_reducible repeat (first | refine blk_drewN ?_ _ | refine blk_drew ?_ | refine blk_alloc ?_ _)); exact BK1001.out) hb); replace BK1009 := am_ (blk_below (g := gb1009) (o := .cells #[.slice A1008_0 ((rd_T87 l0_4 x80_3).f0).length c1008_0, .int .i64 ((rd_T87 l0_4 x80_3).f1), .int .i64 ((rd_T87 l0_4 x80_3).f2)] 87 (0, 0)) (by (with_reducible repeat (first | refine blk_drewN ?_ _ | refine blk_drew ?_ | refine blk_alloc ?_ _)); refine blk_put (cs := #[.slice A1008_0 ((rd_T87 l0_4 x80_3).f0).length c1008_0, .int .i64 ((rd_T87 l0_4 x80_3).f1), .int .i64 0]) ?_ 2 _ rfl; (with_reducible repeat (first | refine blk_drewN ?_ _ | refine blk_drew ?_ | refine blk_alloc ?_ _)); refine blk_put (cs := #[.slice A1008_0 ((rd_T87 l0_4 x80_3).f0).length c1008_0, .int .i64 0, .int .i64 0]) ?_ 1 _ rfl; (with_reducible repeat (first | refine blk_drewN ?_ _ | refine blk_drew ?_ | refine blk_alloc ?_ _)); refine blk_put (cs := #[.slice none 0 0, .int .i64 0, .int .i64 0]) ?_ 0 _ rfl; (with_reducible repeat (first | refine blk_drewN ?_ _ | refine blk_drew ?_ | refine blk_alloc ?_ _)); exact BK1009.out) hb); replace HB := am_ (below_step bg_ hb); (try clear hb); (try clear hb2); (try clear hk); (try clear hi); have hcz70_0 := bc5_0 BK1001; have hcz70_1 := bc5_1 BK1001; have hcz70_2 := bc5_2 BK1001; have hcz70_3 := bc5_3 BK1001; have hcz70_4 := bc5_4 BK1001; have hfz70_0 := bf_ BK1001 0; have hfz70_1 := bf_ BK1001 1; have hfz70_2 := bf_ BK1001 2; have hfz70_3 := bf_ BK1001 3; have hfz70_4 := bf_ BK1001 4; have hcz71_0 := bc3_0 BK1009; have hcz71_1 := bc3_1 BK1009; have hcz71_2 := bc3_2 BK1009; have hfz71_0 := bf_ BK1009 0; have hfz71_1 := bf_ BK1009 1; have hfz71_2 := bf_ BK1009 2) | (go_at_call 49; (with_reducible refine (spec_l9Has.calls k3 _ _ l0_3 _ _ ((rd_T87 l0_4 x80_3).f0) true _ ?side1 ?side2 ?side3 ?side4 A55.out).mono ?_); (case side1 => exact cc_ (Kd.C_below HR0_3.out HB.out)); (case side2 => exact HC0_3.out); (case side3 => exact cc_ (Kd.C_below HR1008_0.out HB.out)); (case side4 => exact HC1008_0.out); rintro e w72 ⟨rfl, hb⟩; replace BK1001 := am_ (blk_below (g := gb1001) (vk_ BK1001) hb); replace BK1009 := am_ (blk_below (g := gb1009) (vk_ BK1009) hb); replace HB := am_ (below_step bg_ hb); (try clear hb); (try clear hb2); (try clear hk); (try clear hi); have hcz73_0 := bc3_0 BK1009; have hcz73_1 := bc3_1 BK1009; have hcz73_2 := bc3_2 BK1009; have hfz73_0 := bf_ BK1009 0; have hfz73_1 := bf_ BK1009 1; have hfz73_2 := bf_ BK1009 2; have hcz74_0 := bc5_0 BK1001; have hcz74_1 := bc5_1 BK1001; have hcz74_2 := bc5_2 BK1001; have hcz74_3 := bc5_3 BK1001; have hcz74_4 := bc5_4 BK1001; have hfz74_0 := bf_ BK1001 0; have hfz74_1 := bf_ BK1001 1; have hfz74_2 := bf_ BK1001 2; have hfz74_3 := bf_ BK1001 3; have hfz74_4 := bf_ BK1001 4)); try go_wp2)
                 go_meet
                 case rel => exact ⟨_, (true), rs_, H', ⟨by have := HJ1.out; have := HK2.out; have := HK3.out; first | omega | exact Nat.le_refl _⟩, ⟨vk_ BK1001⟩, ⟨vk_ BK1009⟩, ⟨bg_⟩⟩
                ·rw [if_neg c66] at H
                 have c66b0 : decide (a0_1 ≤ ((rd_T87 l0_4 x80_3).f2)) = false := decide_eq_false c66
                 clear c66
                 have H' := am_ H
                 clear H
                 have hnb75 := NB1009_1001.out
                 have hnc75 := NB1001_1009.out
                 have hcz76_0 := bc3_0 BK1009
                 have hcz76_1 := bc3_1 BK1009
                 have hcz76_2 := bc3_2 BK1009
                 have hfz76_0 := bf_ BK1009 0
                 have hfz76_1 := bf_ BK1009 1
                 have hfz76_2 := bf_ BK1009 2
                 go_wp2_with (first | (go_at_call 48; (with_reducible refine (spec_GoodLabels.calls k3 _ _ ((rd_T87 l0_4 x80_3).f0) true _ ?side1 ?side2 A53.out).mono ?_); (case side1 => exact Kd.C_below HR1008_0.out bg_); (case side2 => exact HC1008_0.out); rintro e w77 ⟨rfl, hb⟩; replace BK1001 := am_ (blk_below (g := gb1001) (o := .cells #[.int .i64 a0_0, .int .i64 a0_1, .int .i64 a0_2, .slice A0_3 l0_3.length c0_3, .slice (some ad1008) l0_4.length c0_4] 31 (0, 0)) (by (with_reducible repeat (first | refine blk_drewN ?_ _ | refine blk_drew ?_ | refine blk_alloc ?_ _)); refine blk_far ?_ NB1001_1009.out _; (with_reducible repeat (first | refine blk_drewN ?_ _ | refine blk_drew ?_ | refine blk_alloc ?_ _)); refine blk_far ?_ NB1001_1009.out _; (with_reducible repeat (first | refine blk_drewN ?_ _ | refine blk_drew ?_ | refine blk_alloc ?_ _)); refine blk_far ?_ NB1001_1009.out _; (with_reducible repeat (first | refine blk_drewN ?_ _ | refine blk_drew ?_ | refine blk_alloc ?_ _)); exact BK1001.out) hb); replace BK1009 := am_ (blk_below (g := gb1009) (o := .cells #[.slice A1008_0 ((rd_T87 l0_4 x80_3).f0).length c1008_0, .int .i64 ((rd_T87 l0_4 x80_3).f1), .int .i64 ((rd_T87 l0_4 x80_3).f2)] 87 (0, 0)) (by (with_reducible repeat (first | refine blk_drewN ?_ _ | refine blk_drew ?_ | refine blk_alloc ?_ _)); refine blk_put (cs := #[.slice A1008_0 ((rd_T87 l0_4 x80_3).f0).length c1008_0, .int .i64 ((rd_T87 l0_4 x80_3).f1), .int .i64 0]) ?_ 2 _ rfl; (with_reducible repeat (first | refine blk_drewN ?_ _ | refine blk_drew ?_ | refine blk_alloc ?_ _)); refine blk_put (cs := #[.slice A1008_0 ((rd_T87 l0_4 x80_3).f0).length c1008_0, .int .i64 0, .int .i64 0]) ?_ 1 _ rfl; (with_reducible repeat (first | refine blk_drewN ?_ _ | refine blk_drew ?_ | refine blk_alloc ?_ _)); refine blk_put (cs := #[.slice none 0 0, .int .i64 0, .int .i64 0]) ?_ 0 _ rfl; (with_reducible repeat (first | refine blk_drewN ?_ _ | refine blk_drew ?_ | refine blk_alloc ?_ _)); exact BK1009.out) hb); replace HB := am_ (below_step bg_ hb); (try clear hb); (try clear hb2); (try clear hk); (try clear hi); have hcz78_0 := bc5_0 BK1001; have hcz78_1 := bc5_1 BK1001; have hcz78_2 := bc5_2 BK1001; have hcz78_3 := bc5_3 BK1001; have hcz78_4 := bc5_4 BK1001; have hfz78_0 := bf_ BK1001 0; have hfz78_1 := bf_ BK1001 1; have hfz78_2 := bf_ BK1001 2; have hfz78_3 := bf_ BK1001 3; have hfz78_4 := bf_ BK1001 4; have hcz79_0 := bc3_0 BK1009; have hcz79_1 := bc3_1 BK1009; have hcz79_2 := bc3_2 BK1009; have hfz79_0 := bf_ BK1009 0; have hfz79_1 := bf_ BK1009 1; have hfz79_2 := bf_ BK1009 2) | (go_at_call 49; (with_reducible refine (spec_l9Has.calls k3 _ _ l0_3 _ _ ((rd_T87 l0_4 x80_3).f0) true _ ?side1 ?side2 ?side3 ?side4 A55.out).mono ?_); (case side1 => exact cc_ (Kd.C_below HR0_3.out HB.out)); (case side2 => exact HC0_3.out); (case side3 => exact cc_ (Kd.C_below HR1008_0.out HB.out)); (case side4 => exact HC1008_0.out); rintro e w80 ⟨rfl, hb⟩; replace BK1001 := am_ (blk_below (g := gb1001) (vk_ BK1001) hb); replace BK1009 := am_ (blk_below (g := gb1009) (vk_ BK1009) hb); replace HB := am_ (below_step bg_ hb); (try clear hb); (try clear hb2); (try clear hk); (try clear hi); have hcz81_0 := bc3_0 BK1009; have hcz81_1 := bc3_1 BK1009; have hcz81_2 := bc3_2 BK1009; have hfz81_0 := bf_ BK1009 0; have hfz81_1 := bf_ BK1009 1; have hfz81_2 := bf_ BK1009 2; have hcz82_0 := bc5_0 BK1001; have hcz82_1 := bc5_1 BK1001; have hcz82_2 := bc5_2 BK1001; have hcz82_3 := bc5_3 BK1001; have hcz82_4 := bc5_4 BK1001; have hfz82_0 := bf_ BK1001 0; have hfz82_1 := bf_ BK1001 1; have hfz82_2 := bf_ BK1001 2; have hfz82_3 := bf_ BK1001 3; have hfz82_4 := bf_ BK1001 4))
                 repeat (go_quiet (first | (go_at_call 48; (with_reducible refine (spec_GoodLabels.calls k3 _ _ ((rd_T87 l0_4 x80_3).f0) true _ ?side1 ?side2 A53.out).mono ?_); (case side1 => exact Kd.C_below HR1008_0.out bg_); (case side2 => exact HC1008_0.out); rintro e w77 ⟨rfl, hb⟩; replace BK1001 := am_ (blk_below (g := gb1001) (o := .cells #[.int .i64 a0_0, .int .i64 a0_1, .int .i64 a0_2, .slice A0_3 l0_3.length c0_3, .slice (some ad1008) l0_4.length c0_4] 31 (0, 0)) (by (with_reducible repeat (first | refine blk_drewN ?_ _ | refine blk_drew ?_ | refine blk_alloc ?_ _)); refine blk_far ?_ NB1001_1009.out _; (with_reducible repeat (first | refine blk_drewN ?_ _ | refine blk_drew ?_ | refine blk_alloc ?_ _)); refine blk_far ?_ NB1001_1009.out _; (with_reducible repeat (first | refine blk_drewN ?_ _ | refine blk_drew ?_ | refine blk_alloc ?_ _)); refine blk_far ?_ NB1001_1009.out _; (with_reducible repeat (first | refine blk_drewN ?_ _ | refine blk_drew ?_ | refine blk_alloc ?_ _)); exact BK1001.out) hb); replace BK1009 := am_ (blk_below (g := gb1009) (o := .cells #[.slice A1008_0 ((rd_T87 l0_4 x80_3).f0).length c1008_0, .int .i64 ((rd_T87 l0_4 x80_3).f1), .int .i64 ((rd_T87 l0_4 x80_3).f2)] 87 (0, 0)) (by (with_reducible repeat (first | refine blk_drewN ?_ _ | refine blk_drew ?_ | refine blk_alloc ?_ _)); refine blk_put (cs := #[.slice A1008_0 ((rd_T87 l0_4 x80_3).f0).length c1008_0, .int .i64 ((rd_T87 l0_4 x80_3).f1), .int .i64 0]) ?_ 2 _ rfl; (with_reducible repeat (first | refine blk_drewN ?_ _ | refine blk_drew ?_ | refine blk_alloc ?_ _)); refine blk_put (cs := #[.slice A1008_0 ((rd_T87 l0_4 x80_3).f0).length c1008_0, .int .i64 0, .int .i64 0]) ?_ 1 _ rfl; (with_reducible repeat (first | refine blk_drewN ?_ _ | refine blk_drew ?_ | refine blk_alloc ?_ _)); refine blk_put (cs := #[.slice none 0 0, .int .i64 0, .int .i64 0]) ?_ 0 _ rfl; (with_reducible repeat (first | refine blk_drewN ?_ _ | refine blk_drew ?_ | refine blk_alloc ?_ _)); exact BK1009.out) hb); replace HB := am_ (below_step bg_ hb); (try clear hb); (try clear hb2); (try clear hk); (try clear hi); have hcz78_0 := bc5_0 BK1001; have hcz78_1 := bc5_1 BK1001; have hcz78_2 := bc5_2 BK1001; have hcz78_3 := bc5_3 BK1001; have hcz78_4 := bc5_4 BK1001; have hfz78_0 := bf_ BK1001 0; have hfz78_1 := bf_ BK1001 1; have hfz78_2 := bf_ BK1001 2; have hfz78_3 := bf_ BK1001 3; have hfz78_4 := bf_ BK1001 4; have hcz79_0 := bc3_0 BK1009; have hcz79_1 := bc3_1 BK1009; have hcz79_2 := bc3_2 BK1009; have hfz79_0 := bf_ BK1009 0; have hfz79_1 := bf_ BK1009 1; have hfz79_2 := bf_ BK1009 2) | (go_at_call 49; (with_reducible refine (spec_l9Has.calls k3 _ _ l0_3 _ _ ((rd_T87 l0_4 x80_3).f0) true _ ?side1 ?side2 ?side3 ?side4 A55.out).mono ?_); (case side1 => exact cc_ (Kd.C_below HR0_3.out HB.out)); (case side2 => exact HC0_3.out); (case side3 => exact cc_ (Kd.C_below HR1008_0.out HB.out)); (case side4 => exact HC1008_0.out); rintro e w80 ⟨rfl, hb⟩; replace BK1001 := am_ (blk_below (g := gb1001) (vk_ BK1001) hb); replace BK1009 := am_ (blk_below (g := gb1009) (vk_ BK1009) hb); replace HB := am_ (below_step bg_ hb); (try clear hb); (try clear hb2); (try clear hk); (try clear hi); have hcz81_0 := bc3_0 BK1009; have hcz81_1 := bc3_1 BK1009; have hcz81_2 := bc3_2 BK1009; have hfz81_0 := bf_ BK1009 0; have hfz81_1 := bf_ BK1009 1; have hfz81_2 := bf_ BK1009 2; have hcz82_0 := bc5_0 BK1001; have hcz82_1 := bc5_1 BK1001; have hcz82_2 := bc5_2 BK1001; have hcz82_3 := bc5_3 BK1001; have hcz82_4 := bc5_4 BK1001; have hfz82_0 := bf_ BK1001 0; have hfz82_1 := bf_ BK1001 1; have hfz82_2 := bf_ BK1001 2; have hfz82_3 := bf_ BK1001 3; have hfz82_4 := bf_ BK1001 4)); try go_wp2)
                 go_meet
                 case rel => exact ⟨_, (decide (((rd_T87 l0_4 x80_3).f1) > ((rd_T87 l0_4 x80_3).f2))), rs_, H', ⟨by have := HJ1.out; have := HK2.out; have := HK3.out; first | omega | exact Nat.le_refl _⟩, ⟨vk_ BK1001⟩, ⟨vk_ BK1009⟩, ⟨bg_⟩⟩
              ·replace c56 := Bool.eq_false_iff.mpr c56
               subst c56
               have H1 : (spec_GoodBlock.j3 k3 x80_3 l0_4 (l0_4.length : Int) x80_3 true a0_0 a0_1 a0_2 l0_3 l0_4 ((rd_T87 l0_4 x80_3).f0) ((rd_T87 l0_4 x80_3).f1) ((rd_T87 l0_4 x80_3).f2)) = some r := by rw [if_neg (show ¬ (false = true) by decide)] at H; exact H
               clear H
               have H := H1
               clear H1
               have H' := am_ H
               clear H
               have hnb83 := NB1009_1001.out
               have hnc83 := NB1001_1009.out
               have hcz84_0 := bc3_0 BK1009
               have hcz84_1 := bc3_1 BK1009
               have hcz84_2 := bc3_2 BK1009
               have hfz84_0 := bf_ BK1009 0
               have hfz84_1 := bf_ BK1009 1
               have hfz84_2 := bf_ BK1009 2
               go_wp2_with (first | (go_at_call 48; (with_reducible refine (spec_GoodLabels.calls k3 _ _ ((rd_T87 l0_4 x80_3).f0) true _ ?side1 ?side2 A53.out).mono ?_); (case side1 => exact Kd.C_below HR1008_0.out bg_); (case side2 => exact HC1008_0.out); rintro e w85 ⟨rfl, hb⟩; replace BK1001 := am_ (blk_below (g := gb1001) (o := .cells #[.int .i64 a0_0, .int .i64 a0_1, .int .i64 a0_2, .slice A0_3 l0_3.length c0_3, .slice (some ad1008) l0_4.length c0_4] 31 (0, 0)) (by (with_reducible repeat (first | refine blk_drewN ?_ _ | refine blk_drew ?_ | refine blk_alloc ?_ _)); refine blk_far ?_ NB1001_1009.out _; (with_reducible repeat (first | refine blk_drewN ?_ _ | refine blk_drew ?_ | refine blk_alloc ?_ _)); refine blk_far ?_ NB1001_1009.out _; (with_reducible repeat (first | refine blk_drewN ?_ _ | refine blk_drew ?_ | refine blk_alloc ?_ _)); refine blk_far ?_ NB1001_1009.out _; (with_reducible repeat (first | refine blk_drewN ?_ _ | refine blk_drew ?_ | refine blk_alloc ?_ _)); exact BK1001.out) hb); replace BK1009 := am_ (blk_below (g := gb1009) (o := .cells #[.slice A1008_0 ((rd_T87 l0_4 x80_3).f0).length c1008_0, .int .i64 ((rd_T87 l0_4 x80_3).f1), .int .i64 ((rd_T87 l0_4 x80_3).f2)] 87 (0, 0)) (by (with_reducible repeat (first | refine blk_drewN ?_ _ | refine blk_drew ?_ | refine blk_alloc ?_ _)); refine blk_put (cs := #[.slice A1008_0 ((rd_T87 l0_4 x80_3).f0).length c1008_0, .int .i64 ((rd_T87 l0_4 x80_3).f1), .int .i64 0]) ?_ 2 _ rfl; (with_reducible repeat (first | refine blk_drewN ?_ _ | refine blk_drew ?_ | refine blk_alloc ?_ _)); refine blk_put (cs := #[.slice A1008_0 ((rd_T87 l0_4 x80_3).f0).length c1008_0, .int .i64 0, .int .i64 0]) ?_ 1 _ rfl; (with_reducible repeat (first | refine blk_drewN ?_ _ | refine blk_drew ?_ | refine blk_alloc ?_ _)); refine blk_put (cs := #[.slice none 0 0, .int .i64 0, .int .i64 0]) ?_ 0 _ rfl; (with_reducible repeat (first | refine blk_drewN ?_ _ | refine blk_drew ?_ | refine blk_alloc ?_ _)); exact BK1009.out) hb); replace HB := am_ (below_step bg_ hb); (try clear hb); (try clear hb2); (try clear hk); (try clear hi); have hcz86_0 := bc5_0 BK1001; have hcz86_1 := bc5_1 BK1001; have hcz86_2 := bc5_2 BK1001; have hcz86_3 := bc5_3 BK1001; have hcz86_4 := bc5_4 BK1001; have hfz86_0 := bf_ BK1001 0; have hfz86_1 := bf_ BK1001 1; have hfz86_2 := bf_ BK1001 2; have hfz86_3 := bf_ BK1001 3; have hfz86_4 := bf_ BK1001 4; have hcz87_0 := bc3_0 BK1009; have hcz87_1 := bc3_1 BK1009; have hcz87_2 := bc3_2 BK1009; have hfz87_0 := bf_ BK1009 0; have hfz87_1 := bf_ BK1009 1; have hfz87_2 := bf_ BK1009 2) | (go_at_call 49; (with_reducible refine (spec_l9Has.calls k3 _ _ l0_3 _ _ ((rd_T87 l0_4 x80_3).f0) false _ ?side1 ?side2 ?side3 ?side4 A55.out).mono ?_); (case side1 => exact cc_ (Kd.C_below HR0_3.out HB.out)); (case side2 => exact HC0_3.out); (case side3 => exact cc_ (Kd.C_below HR1008_0.out HB.out)); (case side4 => exact HC1008_0.out); rintro e w88 ⟨rfl, hb⟩; replace BK1001 := am_ (blk_below (g := gb1001) (vk_ BK1001) hb); replace BK1009 := am_ (blk_below (g := gb1009) (vk_ BK1009) hb); replace HB := am_ (below_step bg_ hb); (try clear hb); (try clear hb2); (try clear hk); (try clear hi)))
               repeat (go_quiet (first | (go_at_call 48; (with_reducible refine (spec_GoodLabels.calls k3 _ _ ((rd_T87 l0_4 x80_3).f0) true _ ?side1 ?side2 A53.out).mono ?_); (case side1 => exact Kd.C_below HR1008_0.out bg_); (case side2 => exact HC1008_0.out); rintro e w85 ⟨rfl, hb⟩; replace BK1001 := am_ (blk_below (g := gb1001) (o := .cells #[.int .i64 a0_0, .int .i64 a0_1, .int .i64 a0_2, .slice A0_3 l0_3.length c0_3, .slice (some ad1008) l0_4.length c0_4] 31 (0, 0)) (by (with_reducible repeat (first | refine blk_drewN ?_ _ | refine blk_drew ?_ | refine blk_alloc ?_ _)); refine blk_far ?_ NB1001_1009.out _; (with_reducible repeat (first | refine blk_drewN ?_ _ | refine blk_drew ?_ | refine blk_alloc ?_ _)); refine blk_far ?_ NB1001_1009.out _; (with_reducible repeat (first | refine blk_drewN ?_ _ | refine blk_drew ?_ | refine blk_alloc ?_ _)); refine blk_far ?_ NB1001_1009.out _; (with_reducible repeat (first | refine blk_drewN ?_ _ | refine blk_drew ?_ | refine blk_alloc ?_ _)); exact BK1001.out) hb); replace BK1009 := am_ (blk_below (g := gb1009) (o := .cells #[.slice A1008_0 ((rd_T87 l0_4 x80_3).f0).length c1008_0, .int .i64 ((rd_T87 l0_4 x80_3).f1), .int .i64 ((rd_T87 l0_4 x80_3).f2)] 87 (0, 0)) (by (with_reducible repeat (first | refine blk_drewN ?_ _ | refine blk_drew ?_ | refine blk_alloc ?_ _)); refine blk_put (cs := #[.slice A1008_0 ((rd_T87 l0_4 x80_3).f0).length c1008_0, .int .i64 ((rd_T87 l0_4 x80_3).f1), .int .i64 0]) ?_ 2 _ rfl; (with_reducible repeat (first | refine blk_drewN ?_ _ | refine blk_drew ?_ | refine blk_alloc ?_ _)); refine blk_put (cs := #[.slice A1008_0 ((rd_T87 l0_4 x80_3).f0).length c1008_0, .int .i64 0, .int .i64 0]) ?_ 1 _ rfl; (with_reducible repeat (first | refine blk_drewN ?_ _ | refine blk_drew ?_ | refine blk_alloc ?_ _)); refine blk_put (cs := #[.slice none 0 0, .int .i64 0, .int .i64 0]) ?_ 0 _ rfl; (with_reducible repeat (first | refine blk_drewN ?_ _ | refine blk_drew ?_ | refine blk_alloc ?_ _)); exact BK1009.out) hb); replace HB := am_ (below_step bg_ hb); (try clear hb); (try clear hb2); (try clear hk); (try clear hi); have hcz86_0 := bc5_0 BK1001; have hcz86_1 := bc5_1 BK1001; have hcz86_2 := bc5_2 BK1001; have hcz86_3 := bc5_3 BK1001; have hcz86_4 := bc5_4 BK1001; have hfz86_0 := bf_ BK1001 0; have hfz86_1 := bf_ BK1001 1; have hfz86_2 := bf_ BK1001 2; have hfz86_3 := bf_ BK1001 3; have hfz86_4 := bf_ BK1001 4; have hcz87_0 := bc3_0 BK1009; have hcz87_1 := bc3_1 BK1009; have hcz87_2 := bc3_2 BK1009; have hfz87_0 := bf_ BK1009 0; have hfz87_1 := bf_ BK1009 1; have hfz87_2 := bf_ BK1009 2) | (go_at_call 49; (with_reducible refine (spec_l9Has.calls k3 _ _ l0_3 _ _ ((rd_T87 l0_4 x80_3).f0) false _ ?side1 ?side2 ?side3 ?side4 A55.out).mono ?_); (case side1 => exact cc_ (Kd.C_below HR0_3.out HB.out)); (case side2 => exact HC0_3.out); (case side3 => exact cc_ (Kd.C_below HR1008_0.out HB.out)); (case side4 => exact HC1008_0.out); rintro e w88 ⟨rfl, hb⟩; replace BK1001 := am_ (blk_below (g := gb1001) (vk_ BK1001) hb); replace BK1009 := am_ (blk_below (g := gb1009) (vk_ BK1009) hb); replace HB := am_ (below_step bg_ hb); (try clear hb); (try clear hb2); (try clear hk); (try clear hi))); try go_wp2)
               go_meet
               case rel => exact ⟨_, (true), rs_, H', ⟨by have := HJ1.out; have := HK2.out; have := HK3.out; first | omega | exact Nat.le_refl _⟩, ⟨vk_ BK1001⟩, ⟨vk_ BK1009⟩, ⟨bg_⟩⟩
             ·replace c54 := Bool.eq_false_iff.mpr c54
              subst c54
              have H1 : (spec_GoodBlock.j3 k3 x80_3 l0_4 (l0_4.length : Int) x80_3 true a0_0 a0_1 a0_2 l0_3 l0_4 ((rd_T87 l0_4 x80_3).f0) ((rd_T87 l0_4 x80_3).f1) ((rd_T87 l0_4 x80_3).f2)) = some r := by rw [if_neg (show ¬ (false = true) by decide)] at H; exact H
              clear H
              have H := H1
              clear H1
              have H' := am_ H
              clear H
              have hnb89 := NB1009_1001.out
              have hnc89 := NB1001_1009.out
              have hcz90_0 := bc3_0 BK1009
              have hcz90_1 := bc3_1 BK1009
              have hcz90_2 := bc3_2 BK1009
              have hfz90_0 := bf_ BK1009 0
              have hfz90_1 := bf_ BK1009 1
              have hfz90_2 := bf_ BK1009 2
              go_wp2_with (first | (go_at_call 48; (with_reducible refine (spec_GoodLabels.calls k3 _ _ ((rd_T87 l0_4 x80_3).f0) false _ ?side1 ?side2 A53.out).mono ?_); (case side1 => exact Kd.C_below HR1008_0.out bg_); (case side2 => exact HC1008_0.out); rintro e w91 ⟨rfl, hb⟩; replace BK1001 := am_ (blk_below (g := gb1001) (o := .cells #[.int .i64 a0_0, .int .i64 a0_1, .int .i64 a0_2, .slice A0_3 l0_3.length c0_3, .slice (some ad1008) l0_4.length c0_4] 31 (0, 0)) (by (with_reducible repeat (first | refine blk_drewN ?_ _ | refine blk_drew ?_ | refine blk_alloc ?_ _)); refine blk_far ?_ NB1001_1009.out _; (with_reducible repeat (first | refine blk_drewN ?_ _ | refine blk_drew ?_ | refine blk_alloc ?_ _)); refine blk_far ?_ NB1001_1009.out _; (with_reducible repeat (first | refine blk_drewN ?_ _ | refine blk_drew ?_ | refine blk_alloc ?_ _)); refine blk_far ?_ NB1001_1009.out _; (with_reducible repeat (first | refine blk_drewN ?_ _ | refine blk_drew ?_ | refine blk_alloc ?_ _)); exact BK1001.out) hb); replace BK1009 := am_ (blk_below (g := gb1009) (o := .cells #[.slice A1008_0 ((rd_T87 l0_4 x80_3).f0).length c1008_0, .int .i64 ((rd_T87 l0_4 x80_3).f1), .int .i64 ((rd_T87 l0_4 x80_3).f2)] 87 (0, 0)) (by (with_reducible repeat (first | refine blk_drewN ?_ _ | refine blk_drew ?_ | refine blk_alloc ?_ _)); refine blk_put (cs := #[.slice A1008_0 ((rd_T87 l0_4 x80_3).f0).length c1008_0, .int .i64 ((rd_T87 l0_4 x80_3).f1), .int .i64 0]) ?_ 2 _ rfl; (with_reducible repeat (first | refine blk_drewN ?_ _ | refine blk_drew ?_ | refine blk_alloc ?_ _)); refine blk_put (cs := #[.slice A1008_0 ((rd_T87 l0_4 x80_3).f0).length c1008_0, .int .i64 0, .int .i64 0]) ?_ 1 _ rfl; (with_reducible repeat (first | refine blk_drewN ?_ _ | refine blk_drew ?_ | refine blk_alloc ?_ _)); refine blk_put (cs := #[.slice none 0 0, .int .i64 0, .int .i64 0]) ?_ 0 _ rfl; (with_reducible repeat (first | refine blk_drewN ?_ _ | refine blk_drew ?_ | refine blk_alloc ?_ _)); exact BK1009.out) hb); replace HB := am_ (below_step bg_ hb); (try clear hb); (try clear hb2); (try clear hk); (try clear hi)))
              repeat (go_quiet (first | (go_at_call 48; (with_reducible refine (spec_GoodLabels.calls k3 _ _ ((rd_T87 l0_4 x80_3).f0) false _ ?side1 ?side2 A53.out).mono ?_); (case side1 => exact Kd.C_below HR1008_0.out bg_); (case side2 => exact HC1008_0.out); rintro e w91 ⟨rfl, hb⟩; replace BK1001 := am_ (blk_below (g := gb1001) (o := .cells #[.int .i64 a0_0, .int .i64 a0_1, .int .i64 a0_2, .slice A0_3 l0_3.length c0_3, .slice (some ad1008) l0_4.length c0_4] 31 (0, 0)) (by (with_reducible repeat (first | refine blk_drewN ?_ _ | refine blk_drew ?_ | refine blk_alloc ?_ _)); refine blk_far ?_ NB1001_1009.out _; (with_reducible repeat (first | refine blk_drewN ?_ _ | refine blk_drew ?_ | refine blk_alloc ?_ _)); refine blk_far ?_ NB1001_1009.out _; (with_reducible repeat (first | refine blk_drewN ?_ _ | refine blk_drew ?_ | refine blk_alloc ?_ _)); refine blk_far ?_ NB1001_1009.out _; (with_reducible repeat (first | refine blk_drewN ?_ _ | refine blk_drew ?_ | refine blk_alloc ?_ _)); exact BK1001.out) hb); replace BK1009 := am_ (blk_below (g := gb1009) (o := .cells #[.slice A1008_0 ((rd_T87 l0_4 x80_3).f0).length c1008_0, .int .i64 ((rd_T87 l0_4 x80_3).f1), .int .i64 ((rd_T87 l0_4 x80_3).f2)] 87 (0, 0)) (by (with_reducible repeat (first | refine blk_drewN ?_ _ | refine blk_drew ?_ | refine blk_alloc ?_ _)); refine blk_put (cs := #[.slice A1008_0 ((rd_T87 l0_4 x80_3).f0).length c1008_0, .int .i64 ((rd_T87 l0_4 x80_3).f1), .int .i64 0]) ?_ 2 _ rfl; (with_reducible repeat (first | refine blk_drewN ?_ _ | refine blk_drew ?_ | refine blk_alloc ?_ _)); refine blk_put (cs := #[.slice A1008_0 ((rd_T87 l0_4 x80_3).f0).length c1008_0, .int .i64 0, .int .i64 0]) ?_ 1 _ rfl; (with_reducible repeat (first | refine blk_drewN ?_ _ | refine blk_drew ?_ | refine blk_alloc ?_ _)); refine blk_put (cs := #[.slice none 0 0, .int .i64 0, .int .i64 0]) ?_ 0 _ rfl; (with_reducible repeat (first | refine blk_drewN ?_ _ | refine blk_drew ?_ | refine blk_alloc ?_ _)); exact BK1009.out) hb); replace HB := am_ (below_step bg_ hb); (try clear hb); (try clear hb2); (try clear hk); (try clear hi))); try go_wp2)
              go_meet
              case rel => exact ⟨_, (true), rs_, H', ⟨by have := HJ1.out; have := HK2.out; have := HK3.out; first | omega | exact Nat.le_refl _⟩, ⟨vk_ BK1001⟩, ⟨vk_ BK1009⟩, ⟨bg_⟩⟩
            case rest =>
             clear HC49
             try clear c1
             try clear p1
             try clear q1
             try clear hx1
             try clear qi1
             try clear c2
             try clear p2
             try clear c3
             try clear c4
             try clear c5
             try clear c6
             try clear c6b0
             try clear p6
             try clear c7
             try clear c8
             try clear c8b0
             try clear c9
             try clear c10
             try clear c10b0
             try clear p10
             try clear q10
             try clear hx10
             try clear qi10
             try clear c12
             try clear c12b0
             try clear c15
             try clear c22
             try clear c24
             try clear c24b0
             try clear c25
             try clear c25b0
             try clear c26
             try clear c26b0
             try clear c27
             try clear c27b0
             try clear c27b1
             try clear c28
             try clear c28b0
             try clear c30
             try clear c34
             try clear c34b0
             try clear c35
             try clear c35b0
             try clear c36
             try clear c36b0
             try clear c38
             try clear c42
             try clear c46
             try clear c46b0
             try clear c47
             try clear c47b0
             try clear c48
             try clear c48b0
             try clear c51
             try clear c54
             try clear c56
             try clear c57
             try clear c57b0
             try clear c58
             try clear p64
             try clear c66
             try clear c66b0
             try clear c67
             try clear c75
             try clear c83
             try clear c89
             try clear hcz11_0
             try clear hcz11_1
             try clear hcz11_2
             try clear hcz11_3
             try clear hcz11_4
             try clear hcz13_0
             try clear hcz13_1
             try clear hcz13_2
             try clear hcz13_3
             try clear hcz13_4
             try clear hcz16_0
             try clear hcz16_1
             try clear hcz16_2
             try clear hcz16_3
             try clear hcz16_4
             try clear hcz18_0
             try clear hcz18_1
             try clear hcz18_2
             try clear hcz18_3
             try clear hcz18_4
             try clear hcz19_0
             try clear hcz19_1
             try clear hcz19_2
             try clear hcz19_3
             try clear hcz19_4
             try clear hcz21_0
             try clear hcz21_1
             try clear hcz21_2
             try clear hcz21_3
             try clear hcz21_4
             try clear hcz23_0
             try clear hcz23_1
             try clear hcz23_2
             try clear hcz23_3
             try clear hcz23_4
             try clear hcz31_0
             try clear hcz31_1
             try clear hcz32_0
             try clear hcz32_1
             try clear hcz32_2
             try clear hcz32_3
             try clear hcz32_4
             try clear hcz39_0
             try clear hcz39_1
             try clear hcz40_0
             try clear hcz40_1
             try clear hcz40_2
             try clear hcz40_3
             try clear hcz40_4
             try clear hcz43_0
             try clear hcz43_1
             try clear hcz44_0
             try clear hcz44_1
             try clear hcz44_2
             try clear hcz44_3
             try clear hcz44_4
             try clear hcz45_0
             try clear hcz45_1
             try clear hcz45_2
             try clear hcz45_3
             try clear hcz45_4
             try clear hcz52_0
             try clear hcz52_1
             try clear hcz52_2
             try clear hcz59_0
             try clear hcz59_1
             try clear hcz59_2
             try clear hcz61_0
             try clear hcz61_1
             try clear hcz61_2
             try clear hcz61_3
             try clear hcz61_4
             try clear hcz62_0
             try clear hcz62_1
             try clear hcz62_2
             try clear hcz64_0
             try clear hcz64_1
             try clear hcz64_2
             try clear hcz65_0
             try clear hcz65_1
             try clear hcz65_2
             try clear hcz65_3
             try clear hcz65_4
             try clear hcz68_0
             try clear hcz68_1
             try clear hcz68_2
             try clear hcz70_0
             try clear hcz70_1
             try clear hcz70_2
             try clear hcz70_3
             try clear hcz70_4
             try clear hcz71_0
             try clear hcz71_1
             try clear hcz71_2
             try clear hcz73_0
             try clear hcz73_1
             try clear hcz73_2
             try clear hcz74_0
             try clear hcz74_1
             try clear hcz74_2
             try clear hcz74_3
             try clear hcz74_4
             try clear hcz76_0
             try clear hcz76_1
             try clear hcz76_2
             try clear hcz78_0
             try clear hcz78_1
             try clear hcz78_2
             try clear hcz78_3
             try clear hcz78_4
             try clear hcz79_0
             try clear hcz79_1
             try clear hcz79_2
             try clear hcz7_0
             try clear hcz7_1
             try clear hcz7_2
             try clear hcz7_3
             try clear hcz7_4
             try clear hcz81_0
             try clear hcz81_1
             try clear hcz81_2
             try clear hcz82_0
             try clear hcz82_1
             try clear hcz82_2
             try clear hcz82_3
             try clear hcz82_4
             try clear hcz84_0
             try clear hcz84_1
             try clear hcz84_2
             try clear hcz86_0
             try clear hcz86_1
             try clear hcz86_2
             try clear hcz86_3
             try clear hcz86_4
             try clear hcz87_0
             try clear hcz87_1
             try clear hcz87_2
             try clear hcz90_0
             try clear hcz90_1
             try clear hcz90_2
             try clear hcz9_0
             try clear hcz9_1
             try clear hcz9_2
             try clear hcz9_3
             try clear hcz9_4
             try clear hfz11_0
             try clear hfz11_1
             try clear hfz11_2
             try clear hfz11_3
             try clear hfz11_4
             try clear hfz13_0
             try clear hfz13_1
             try clear hfz13_2
             try clear hfz13_3
             try clear hfz13_4
             try clear hfz16_0
             try clear hfz16_1
             try clear hfz16_2
             try clear hfz16_3
             try clear hfz16_4
             try clear hfz18_0
             try clear hfz18_1
             try clear hfz18_2
             try clear hfz18_3
             try clear hfz18_4
             try clear hfz19_0
             try clear hfz19_1
             try clear hfz19_2
             try clear hfz19_3
             try clear hfz19_4
             try clear hfz21_0
             try clear hfz21_1
             try clear hfz21_2
             try clear hfz21_3
             try clear hfz21_4
             try clear hfz23_0
             try clear hfz23_1
             try clear hfz23_2
             try clear hfz23_3
             try clear hfz23_4
             try clear hfz31_0
             try clear hfz31_1
             try clear hfz32_0
             try clear hfz32_1
             try clear hfz32_2
             try clear hfz32_3
             try clear hfz32_4
             try clear hfz39_0
             try clear hfz39_1
             try clear hfz40_0
             try clear hfz40_1
             try clear hfz40_2
             try clear hfz40_3
             try clear hfz40_4
             try clear hfz43_0
             try clear hfz43_1
             try clear hfz44_0
             try clear hfz44_1
             try clear hfz44_2
             try clear hfz44_3
             try clear hfz44_4
             try clear hfz45_0
             try clear hfz45_1
             try clear hfz45_2
             try clear hfz45_3
             try clear hfz45_4
             try clear hfz52_0
             try clear hfz52_1
             try clear hfz52_2
             try clear hfz59_0
             try clear hfz59_1
             try clear hfz59_2
             try clear hfz61_0
             try clear hfz61_1
             try clear hfz61_2
             try clear hfz61_3
             try clear hfz61_4
             try clear hfz62_0
             try clear hfz62_1
             try clear hfz62_2
             try clear hfz64_0
             try clear hfz64_1
             try clear hfz64_2
             try clear hfz65_0
             try clear hfz65_1
             try clear hfz65_2
             try clear hfz65_3
             try clear hfz65_4
             try clear hfz68_0
             try clear hfz68_1
             try clear hfz68_2
             try clear hfz70_0
             try clear hfz70_1
             try clear hfz70_2
             try clear hfz70_3
             try clear hfz70_4
             try clear hfz71_0
             try clear hfz71_1
             try clear hfz71_2
             try clear hfz73_0
             try clear hfz73_1
             try clear hfz73_2
             try clear hfz74_0
             try clear hfz74_1
             try clear hfz74_2
             try clear hfz74_3
             try clear hfz74_4
             try clear hfz76_0
             try clear hfz76_1
             try clear hfz76_2
             try clear hfz78_0
             try clear hfz78_1
             try clear hfz78_2
             try clear hfz78_3
             try clear hfz78_4
             try clear hfz79_0
             try clear hfz79_1
             try clear hfz79_2
             try clear hfz7_0
             try clear hfz7_1
             try clear hfz7_2
             try clear hfz7_3
             try clear hfz7_4
             try clear hfz81_0
             try clear hfz81_1
             try clear hfz81_2
             try clear hfz82_0
             try clear hfz82_1
             try clear hfz82_2
             try clear hfz82_3
             try clear hfz82_4
             try clear hfz84_0
             try clear hfz84_1
             try clear hfz84_2
             try clear hfz86_0
             try clear hfz86_1
             try clear hfz86_2
             try clear hfz86_3
             try clear hfz86_4
             try clear hfz87_0
             try clear hfz87_1
             try clear hfz87_2
             try clear hfz90_0
             try clear hfz90_1
             try clear hfz90_2
             try clear hfz9_0
             try clear hfz9_1
             try clear hfz9_2
             try clear hfz9_3
             try clear hfz9_4
             try clear hx1004_0
             try clear hx1004_1
             try clear hx1006_0
             try clear hx1006_1
             try clear hx1007_0
             try clear hx1007_1
             try clear hx1008_0
             try clear hx1008_1
             try clear hx1008_2
             try clear p1
             try clear p10
             try clear p1004
             try clear p1006
             try clear p1007
             try clear p1008
             try clear p2
             try clear p6
             try clear q1
             try clear q10
             try clear q1004
             try clear q1006
             try clear q1007
             try clear q1008
             obtain ⟨kq, x117_48, rfl, HA, HJ48, BK1001, BK1009, HB⟩ := hcut
             cases kq with
             | zero => exact absurd HA.out (by simp [spec_GoodBlock.j3])
             | succ kj48 =>
              have H := HA.out
              clear HA
              simp only [spec_GoodBlock.j3] at H
              by_cases c92 : x117_48 = true
              ·subst c92
               have H1 : (some false) = some r := by rw [if_pos rfl] at H; exact H
               clear H
               have H := H1
               clear H1
               obtain rfl := Option.some.inj H
               go_wp2
               repeat (go_quiet (fail); try go_wp2)
               go_ret
               exact ⟨rf_, bg_⟩
              ·replace c92 := Bool.eq_false_iff.mpr c92
               subst c92
               have H1 : (if x80_3 = 0 then (spec_GoodBlock.l1 kj48 l0_4 (l0_4.length : Int) (wrap64 (x80_3 + 1)) a0_0 a0_1 a0_2 l0_3 l0_4) else (if 0 ≤ (wrap64 (x80_3 - 1)) then (if (wrap64 (x80_3 - 1)) < (l0_4.length : Int) then ((spec_l2Cmp.f kj48 ((rd_T87 l0_4 (wrap64 (x80_3 - 1))).f0) ((rd_T87 l0_4 x80_3).f0)).bind fun t1014 => (if t1014 > 0 then (some false) else (if t1014 = 0 then (if ((rd_T87 l0_4 x80_3).f1) ≤ (wrap64 (((rd_T87 l0_4 (wrap64 (x80_3 - 1))).f2) + 1)) then (some false) else (spec_GoodBlock.l1 kj48 l0_4 (l0_4.length : Int) (wrap64 (x80_3 + 1)) a0_0 a0_1 a0_2 l0_3 l0_4)) else (spec_GoodBlock.l1 kj48 l0_4 (l0_4.length : Int) (wrap64 (x80_3 + 1)) a0_0 a0_1 a0_2 l0_3 l0_4)))) else (none)) else (none))) = some r := by rw [if_neg (show ¬ (false = true) by decide)] at H; exact H
               clear H
               have H := H1
               clear H1
               by_cases c93 : x80_3 = 0
               ·rw [if_pos c93] at H
                have c93b0 : (x80_3 == 0) = true := beq_iff_eq.mpr c93
                have c93b1 : (x80_3 != 0) = false := bne_eq_false_iff_eq.mpr c93
                clear c93
                have H' := am_ H
                clear H
                go_wp2
                repeat (go_quiet (fail); try go_wp2)
                go_roundg kj48
                case measure => have := HJ1.out; have := HK2.out; have := HK3.out; have := HJ48.out; omega
                case rel => exact ⟨(wrap64 (x80_3 + 1)), rs_, H', ⟨by have := HJ1.out; have := HK2.out; have := HK3.out; have := HJ48.out; omega⟩, ⟨vk_ BK1001⟩, ⟨bg_⟩⟩
               ·rw [if_neg c93] at H
                have c93b0 : (x80_3 == 0) = false := beq_eq_false_iff_ne.mpr c93
                have c93b1 : (x80_3 != 0) = true := bne_iff_ne.mpr c93
                obtain ⟨ji94, hji94⟩ : ∃ j_ : Int, (wrap64 (x80_3 - 1)) = j_ := ⟨_, rfl⟩
                replace H : (if 0 ≤ (ji94) then (if (ji94) < (l0_4.length : Int) then ((spec_l2Cmp.f kj48 ((rd_T87 l0_4 (ji94)).f0) ((rd_T87 l0_4 x80_3).f0)).bind fun t1014 => (if t1014 > 0 then (some false) else (if t1014 = 0 then (if ((rd_T87 l0_4 x80_3).f1) ≤ (wrap64 (((rd_T87 l0_4 (ji94)).f2) + 1)) then (some false) else (spec_GoodBlock.l1 kj48 l0_4 (l0_4.length : Int) (wrap64 (x80_3 + 1)) a0_0 a0_1 a0_2 l0_3 l0_4)) else (spec_GoodBlock.l1 kj48 l0_4 (l0_4.length : Int) (wrap64 (x80_3 + 1)) a0_0 a0_1 a0_2 l0_3 l0_4)))) else (none)) else (none)) = some r := by first | (rw [hji94] at H; exact H) | (simp only [hji94] at H ⊢; exact H)
                have hji94w : (IntKind.i64.wrap (x80_3 - 1)) = ji94 := (i64_w _).trans hji94
                by_cases c95 : 0 ≤ (ji94)
                ·rw [if_pos c95] at H
                 have c95b0 : decide (0 ≤ (ji94)) = true := decide_eq_true c95
                 clear c95
                 by_cases c96 : (ji94) < (l0_4.length : Int)
                 ·rw [if_pos c96] at H
                  have c96b0 : decide ((ji94) < (l0_4.length : Int)) = true := decide_eq_true c96
                  clear c96
                  replace H := Option.bind_eq_some_iff.mp H
                  obtain ⟨t1014, A970, H⟩ := H
                  replace H : (if t1014 > 0 then (some false) else (if t1014 = 0 then (if ((rd_T87 l0_4 x80_3).f1) ≤ (wrap64 (((rd_T87 l0_4 (ji94)).f2) + 1)) then (some false) else (spec_GoodBlock.l1 kj48 l0_4 (l0_4.length : Int) (wrap64 (x80_3 + 1)) a0_0 a0_1 a0_2 l0_3 l0_4)) else (spec_GoodBlock.l1 kj48 l0_4 (l0_4.length : Int) (wrap64 (x80_3 + 1)) a0_0 a0_1 a0_2 l0_3 l0_4))) = some r := H
                  have A97 := am_ A970
                  clear A970
                  by_cases c98 : t1014 > 0
                  ·rw [if_pos c98] at H
                   have c98b0 : decide (0 < t1014) = true := decide_eq_true c98
                   clear c98
                   obtain rfl := Option.some.inj H
                   have hnb99 := NB1001_1009.out
                   have hnc99 := NB1009_1001.out
                   have hcz100_0 := bc5_0 BK1001
                   have hcz100_1 := bc5_1 BK1001
                   have hcz100_2 := bc5_2 BK1001
                   have hcz100_3 := bc5_3 BK1001
                   have hcz100_4 := bc5_4 BK1001
                   have hfz100_0 := bf_ BK1001 0
                   have hfz100_1 := bf_ BK1001 1
                   have hfz100_2 := bf_ BK1001 2
                   have hfz100_3 := bf_ BK1001 3
                   have hfz100_4 := bf_ BK1001 4
                   have p1012 : 0 ≤ ((ji94) : Int) := od_
                   have q1012 : (ji94) < (l0_4.length : Int) := od_
                   obtain ⟨ad1012, A1012_0, c1012_0, e1012, hx1012_0, hx1012_1, hx1012_2, hl1012_0, hi1012_0⟩ := at_T87 HR0_4.out (ji94) p1012 q1012
                   obtain rfl : ad1008 = ad1012 := (by injection e1012)
                   replace hx1012_0 := kp_ HB hx1012_0
                   replace hx1012_1 := kp_ HB hx1012_1
                   replace hx1012_2 := kp_ HB hx1012_2
                   have HR1012_0 := am_ hi1012_0
                   have HC1012_0 := am_ hl1012_0
                   clear hi1012_0 hl1012_0
                   replace p1012 := eq_true p1012
                   replace q1012 := eq_true q1012
                   go_wp2_with (first | ((with_reducible refine gate_dst (N := 7) rfl ?_); (try (refine gate_guard (by rfl) ?_; dsimp only)); refine bx_ 7 #[.slice none 0 0, .int .i64 0, .int .i64 0] 87 ?_; intro gb1013 hg w101 hbox hb; have BK1013 := am_ (hbox); have GW1013 := am_ (gg_ hg : w.heap.size ≤ gb1013); have NB1001_1013 := am_ ((by rw [hg]; exact Nat.ne_of_lt (blk_lt (g := gb1001) (o := .cells #[.int .i64 a0_0, .int .i64 a0_1, .int .i64 a0_2, .slice A0_3 l0_3.length c0_3, .slice (some ad1008) l0_4.length c0_4] 31 (0, 0)) (vk_ BK1001)) : gb1001 ≠ gb1013)); have NB1013_1001 := am_ ((by rw [hg]; exact Nat.ne_of_gt (blk_lt (g := gb1001) (o := .cells #[.int .i64 a0_0, .int .i64 a0_1, .int .i64 a0_2, .slice A0_3 l0_3.length c0_3, .slice (some ad1008) l0_4.length c0_4] 31 (0, 0)) (vk_ BK1001)) : gb1013 ≠ gb1001)); have NB1009_1013 := am_ ((by rw [hg]; exact Nat.ne_of_lt (blk_lt (g := gb1009) (o := .cells #[.slice A1008_0 ((rd_T87 l0_4 x80_3).f0).length c1008_0, .int .i64 ((rd_T87 l0_4 x80_3).f1), .int .i64 ((rd_T87 l0_4 x80_3).f2)] 87 (0, 0)) (vk_ BK1009)) : gb1009 ≠ gb1013)); have NB1013_1009 := am_ ((by rw [hg]; exact Nat.ne_of_gt (blk_lt (g := gb1009) (o := .cells #[.slice A1008_0 ((rd_T87 l0_4 x80_3).f0).length c1008_0, .int .i64 ((rd_T87 l0_4 x80_3).f1), .int .i64 ((rd_T87 l0_4 x80_3).f2)] 87 (0, 0)) (vk_ BK1009)) : gb1013 ≠ gb1009)); replace BK1001 := am_ (blk_below (g := gb1001) (vk_ BK1001) hb); replace BK1009 := am_ (blk_below (g := gb1009) (vk_ BK1009) hb); replace HB := am_ (below_step bg_ hb); have GE1013 := GW1013; clear hb hbox hg; have hnb102 := NB1013_1001.out; have hnc102 := NB1001_1013.out; have hnb103 := NB1013_1009.out; have hnc103 := NB1009_1013.out; have hcz104_0 := bc3_0 BK1013; have hcz104_1 := bc3_1 BK1013; have hcz104_2 := bc3_2 BK1013; have hfz104_0 := bf_ BK1013 0; have hfz104_1 := bf_ BK1013 1; have hfz104_2 := bf_ BK1013 2; have hcz105_0 := bc3_0 BK1009; have hcz105_1 := bc3_1 BK1009; have hcz105_2 := bc3_2 BK1009; have hfz105_0 := bf_ BK1009 0; have hfz105_1 := bf_ BK1009 1; have hfz105_2 := bf_ BK1009 2) | (go_at_call 50; (with_reducible refine (spec_l2Cmp.calls kj48 _ _ ((rd_T87 l0_4 (ji94)).f0) _ _ ((rd_T87 l0_4 x80_3).f0) t1014 _ ?side1 ?side2 ?side3 ?side4 A97.out).mono ?_); (case side1 => exact Kd.C_below HR1012_0.out bg_); (case side2 => exact HC1012_0.out); (case side3 => exact Kd.C_below HR1008_0.out bg_); (case side4 => exact HC1008_0.out); rintro e w' ⟨rfl, ⟨nd, rfl⟩⟩; (try exact dd_)))
                   repeat (go_quiet (first | ((with_reducible refine gate_dst (N := 7) rfl ?_); (try (refine gate_guard (by rfl) ?_; dsimp only)); refine bx_ 7 #[.slice none 0 0, .int .i64 0, .int .i64 0] 87 ?_; intro gb1013 hg w101 hbox hb; have BK1013 := am_ (hbox); have GW1013 := am_ (gg_ hg : w.heap.size ≤ gb1013); have NB1001_1013 := am_ ((by rw [hg]; exact Nat.ne_of_lt (blk_lt (g := gb1001) (o := .cells #[.int .i64 a0_0, .int .i64 a0_1, .int .i64 a0_2, .slice A0_3 l0_3.length c0_3, .slice (some ad1008) l0_4.length c0_4] 31 (0, 0)) (vk_ BK1001)) : gb1001 ≠ gb1013)); have NB1013_1001 := am_ ((by rw [hg]; exact Nat.ne_of_gt (blk_lt (g := gb1001) (o := .cells #[.int .i64 a0_0, .int .i64 a0_1, .int .i64 a0_2, .slice A0_3 l0_3.length c0_3, .slice (some ad1008) l0_4.length c0_4] 31 (0, 0)) (vk_ BK1001)) : gb1013 ≠ gb1001)); have NB1009_1013 := am_ ((by rw [hg]; exact Nat.ne_of_lt (blk_lt (g := gb1009) (o := .cells #[.slice A1008_0 ((rd_T87 l0_4 x80_3).f0).length c1008_0, .int .i64 ((rd_T87 l0_4 x80_3).f1), .int .i64 ((rd_T87 l0_4 x80_3).f2)] 87 (0, 0)) (vk_ BK1009)) : gb1009 ≠ gb1013)); have NB1013_1009 := am_ ((by rw [hg]; exact Nat.ne_of_gt (blk_lt (g := gb1009) (o := .cells #[.slice A1008_0 ((rd_T87 l0_4 x80_3).f0).length c1008_0, .int .i64 ((rd_T87 l0_4 x80_3).f1), .int .i64 ((rd_T87 l0_4 x80_3).f2)] 87 (0, 0)) (vk_ BK1009)) : gb1013 ≠ gb1009)); replace BK1001 := am_ (blk_below (g := gb1001) (vk_ BK1001) hb); replace BK1009 := am_ (blk_below (g := gb1009) (vk_ BK1009) hb); replace HB := am_ (below_step bg_ hb); have GE1013 := GW1013; clear hb hbox hg; have hnb102 := NB1013_1001.out; have hnc102 := NB1001_1013.out; have hnb103 := NB1013_1009.out; have hnc103 := NB1009_1013.out; have hcz104_0 := bc3_0 BK1013; have hcz104_1 := bc3_1 BK1013; have hcz104_2 := bc3_2 BK1013; have hfz104_0 := bf_ BK1013 0; have hfz104_1 := bf_ BK1013 1; have hfz104_2 := bf_ BK1013 2; have hcz105_0 := bc3_0 BK1009; have hcz105_1 := bc3_1 BK1009; have hcz105_2 := bc3_2 BK1009; have hfz105_0 := bf_ BK1009 0; have hfz105_1 := bf_ BK1009 1; have hfz105_2 := bf_ BK1009 2) | (go_at_call 50; (with_reducible refine (spec_l2Cmp.calls kj48 _ _ ((rd_T87 l0_4 (ji94)).f0) _ _ ((rd_T87 l0_4 x80_3).f0) t1014 _ ?side1 ?side2 ?side3 ?side4 A97.out).mono ?_); (case side1 => exact Kd.C_below HR1012_0.out bg_); (case side2 => exact HC1012_0.out); (case side3 => exact Kd.C_below HR1008_0.out bg_); (case side4 => exact HC1008_0.out); rintro e w' ⟨rfl, ⟨nd, rfl⟩⟩; (try exact dd_))); try go_wp2)
                   go_ret
                   exact ⟨by first | rfl | (simp [errW_none, errW_some] <;> rfl) | (simp only [← hji94]; first | rfl | (simp [errW_none, errW_some] <;> rfl)) | (simp [*, errW_none, errW_some] <;> rfl) | (simp [*, Go.Proofs.Ytknlgignjbghkaa.Gt.nil_bne]; done), bg_⟩
                  ·rw [if_neg c98] at H
                   have c98b0 : decide (0 < t1014) = false := decide_eq_false c98
                   clear c98
                   by_cases c106 : t1014 = 0
                   ·rw [if_pos c106] at H
                    have c106b0 : (t1014 == 0) = true := beq_iff_eq.mpr c106
                    have c106b1 : (t1014 != 0) = false := bne_eq_false_iff_eq.mpr c106
                    clear c106
                    by_cases c107 : ((rd_T87 l0_4 x80_3).f1) ≤ (wrap64 (((rd_T87 l0_4 (ji94)).f2) + 1))
                    ·rw [if_pos c107] at H
                     have c107b0 : decide (((rd_T87 l0_4 x80_3).f1) ≤ (wrap64 (((rd_T87 l0_4 (ji94)).f2) + 1))) = true := decide_eq_true c107
                     clear c107
                     obtain rfl := Option.some.inj H
                     have hnb108 := NB1001_1009.out
                     have hnc108 := NB1009_1001.out
                     have hcz109_0 := bc5_0 BK1001
                     have hcz109_1 := bc5_1 BK1001
                     have hcz109_2 := bc5_2 BK1001
                     have hcz109_3 := bc5_3 BK1001
                     have hcz109_4 := bc5_4 BK1001
                     have hfz109_0 := bf_ BK1001 0
                     have hfz109_1 := bf_ BK1001 1
                     have hfz109_2 := bf_ BK1001 2
                     have hfz109_3 := bf_ BK1001 3
                     have hfz109_4 := bf_ BK1001 4
                     have p1012 : 0 ≤ ((ji94) : Int) := od_
                     have q1012 : (ji94) < (l0_4.length : Int) := od_
                     obtain ⟨ad1012, A1012_0, c1012_0, e1012, hx1012_0, hx1012_1, hx1012_2, hl1012_0, hi1012_0⟩ := at_T87 HR0_4.out (ji94) p1012 q1012
                     obtain rfl : ad1008 = ad1012 := (by injection e1012)
                     replace hx1012_0 := kp_ HB hx1012_0
                     replace hx1012_1 := kp_ HB hx1012_1
                     replace hx1012_2 := kp_ HB hx1012_2
                     have HR1012_0 := am_ hi1012_0
                     have HC1012_0 := am_ hl1012_0
                     clear hi1012_0 hl1012_0
                     replace p1012 := eq_true p1012
                     replace q1012 := eq_true q1012
                     go_wp2_with (first | ((with_reducible refine gate_dst (N := 7) rfl ?_); (try (refine gate_guard (by rfl) ?_; dsimp only)); refine bx_ 7 #[.slice none 0 0, .int .i64 0, .int .i64 0] 87 ?_; intro gb1013 hg w110 hbox hb; have BK1013 := am_ (hbox); have GW1013 := am_ (gg_ hg : w.heap.size ≤ gb1013); have NB1001_1013 := am_ ((by rw [hg]; exact Nat.ne_of_lt (blk_lt (g := gb1001) (o := .cells #[.int .i64 a0_0, .int .i64 a0_1, .int .i64 a0_2, .slice A0_3 l0_3.length c0_3, .slice (some ad1008) l0_4.length c0_4] 31 (0, 0)) (vk_ BK1001)) : gb1001 ≠ gb1013)); have NB1013_1001 := am_ ((by rw [hg]; exact Nat.ne_of_gt (blk_lt (g := gb1001) (o := .cells #[.int .i64 a0_0, .int .i64 a0_1, .int .i64 a0_2, .slice A0_3 l0_3.length c0_3, .slice (some ad1008) l0_4.length c0_4] 31 (0, 0)) (vk_ BK1001)) : gb1013 ≠ gb1001)); have NB1009_1013 := am_ ((by rw [hg]; exact Nat.ne_of_lt (blk_lt (g := gb1009) (o := .cells #[.slice A1008_0 ((rd_T87 l0_4 x80_3).f0).length c1008_0, .int .i64 ((rd_T87 l0_4 x80_3).f1), .int .i64 ((rd_T87 l0_4 x80_3).f2)] 87 (0, 0)) (vk_ BK1009)) : gb1009 ≠ gb1013)); have NB1013_1009 := am_ ((by rw [hg]; exact Nat.ne_of_gt (blk_lt (g := gb1009) (o := .cells #[.slice A1008_0 ((rd_T87 l0_4 x80_3).f0).length c1008_0, .int .i64 ((rd_T87 l0_4 x80_3).f1), .int .i64 ((rd_T87 l0_4 x80_3).f2)] 87 (0, 0)) (vk_ BK1009)) : gb1013 ≠ gb1009)); replace BK1001 := am_ (blk_below (g := gb1001) (vk_ BK1001) hb); replace BK1009 := am_ (blk_below (g := gb1009) (vk_ BK1009) hb); replace HB := am_ (below_step bg_ hb); have GE1013 := GW1013; clear hb hbox hg; have hnb111 := NB1013_1001.out; have hnc111 := NB1001_1013.out; have hnb112 := NB1013_1009.out; have hnc112 := NB1009_1013.out; have hcz113_0 := bc3_0 BK1013; have hcz113_1 := bc3_1 BK1013; have hcz113_2 := bc3_2 BK1013; have hfz113_0 := bf_ BK1013 0; have hfz113_1 := bf_ BK1013 1; have hfz113_2 := bf_ BK1013 2; have hcz114_0 := bc3_0 BK1009; have hcz114_1 := bc3_1 BK1009; have hcz114_2 := bc3_2 BK1009; have hfz114_0 := bf_ BK1009 0; have hfz114_1 := bf_ BK1009 1; have hfz114_2 := bf_ BK1009 2) | (go_at_call 50; (with_reducible refine (spec_l2Cmp.calls kj48 _ _ ((rd_T87 l0_4 (ji94)).f0) _ _ ((rd_T87 l0_4 x80_3).f0) t1014 _ ?side1 ?side2 ?side3 ?side4 A97.out).mono ?_); (case side1 => exact Kd.C_below HR1012_0.out bg_); (case side2 => exact HC1012_0.out); (case side3 => exact Kd.C_below HR1008_0.out bg_); (case side4 => exact HC1008_0.out); rintro e w' ⟨rfl, ⟨nd, rfl⟩⟩; (try exact dd_)))
                     repeat (go_quiet (first | ((with_reducible refine gate_dst (N := 7) rfl ?_); (try (refine gate_guard (by rfl) ?_; dsimp only)); refine bx_ 7 #[.slice none 0 0, .int .i64 0, .int .i64 0] 87 ?_; intro gb1013 hg w110 hbox hb; have BK1013 := am_ (hbox); have GW1013 := am_ (gg_ hg : w.heap.size ≤ gb1013); have NB1001_1013 := am_ ((by rw [hg]; exact Nat.ne_of_lt (blk_lt (g := gb1001) (o := .cells #[.int .i64 a0_0, .int .i64 a0_1, .int .i64 a0_2, .slice A0_3 l0_3.length c0_3, .slice (some ad1008) l0_4.length c0_4] 31 (0, 0)) (vk_ BK1001)) : gb1001 ≠ gb1013)); have NB1013_1001 := am_ ((by rw [hg]; exact Nat.ne_of_gt (blk_lt (g := gb1001) (o := .cells #[.int .i64 a0_0, .int .i64 a0_1, .int .i64 a0_2, .slice A0_3 l0_3.length c0_3, .slice (some ad1008) l0_4.length c0_4] 31 (0, 0)) (vk_ BK1001)) : gb1013 ≠ gb1001)); have NB1009_1013 := am_ ((by rw [hg]; exact Nat.ne_of_lt (blk_lt (g := gb1009) (o := .cells #[.slice A1008_0 ((rd_T87 l0_4 x80_3).f0).length c1008_0, .int .i64 ((rd_T87 l0_4 x80_3).f1), .int .i64 ((rd_T87 l0_4 x80_3).f2)] 87 (0, 0)) (vk_ BK1009)) : gb1009 ≠ gb1013)); have NB1013_1009 := am_ ((by rw [hg]; exact Nat.ne_of_gt (blk_lt (g := gb1009) (o := .cells #[.slice A1008_0 ((rd_T87 l0_4 x80_3).f0).length c1008_0, .int .i64 ((rd_T87 l0_4 x80_3).f1), .int .i64 ((rd_T87 l0_4 x80_3).f2)] 87 (0, 0)) (vk_ BK1009)) : gb1013 ≠ gb1009)); replace BK1001 := am_ (blk_below (g := gb1001) (vk_ BK1001) hb); replace BK1009 := am_ (blk_below (g := gb1009) (vk_ BK1009) hb); replace HB := am_ (below_step bg_ hb); have GE1013 := GW1013; clear hb hbox hg; have hnb111 := NB1013_1001.out; have hnc111 := NB1001_1013.out; have hnb112 := NB1013_1009.out; have hnc112 := NB1009_1013.out; have hcz113_0 := bc3_0 BK1013; have hcz113_1 := bc3_1 BK1013; have hcz113_2 := bc3_2 BK1013; have hfz113_0 := bf_ BK1013 0; have hfz113_1 := bf_ BK1013 1; have hfz113_2 := bf_ BK1013 2; have hcz114_0 := bc3_0 BK1009; have hcz114_1 := bc3_1 BK1009; have hcz114_2 := bc3_2 BK1009; have hfz114_0 := bf_ BK1009 0; have hfz114_1 := bf_ BK1009 1; have hfz114_2 := bf_ BK1009 2) | (go_at_call 50; (with_reducible refine (spec_l2Cmp.calls kj48 _ _ ((rd_T87 l0_4 (ji94)).f0) _ _ ((rd_T87 l0_4 x80_3).f0) t1014 _ ?side1 ?side2 ?side3 ?side4 A97.out).mono ?_); (case side1 => exact Kd.C_below HR1012_0.out bg_); (case side2 => exact HC1012_0.out); (case side3 => exact Kd.C_below HR1008_0.out bg_); (case side4 => exact HC1008_0.out); rintro e w' ⟨rfl, ⟨nd, rfl⟩⟩; (try exact dd_))); try go_wp2)
                     go_ret
                     exact ⟨by first | rfl | (simp [errW_none, errW_some] <;> rfl) | (simp only [← hji94]; first | rfl | (simp [errW_none, errW_some] <;> rfl)) | (simp [*, errW_none, errW_some] <;> rfl) | (simp [*, Go.Proofs.Ytknlgignjbghkaa.Gt.nil_bne]; done), bg_⟩
                    ·rw [if_neg c107] at H
                     have c107b0 : decide (((rd_T87 l0_4 x80_3).f1) ≤ (wrap64 (((rd_T87 l0_4 (ji94)).f2) + 1))) = false := decide_eq_false c107
                     clear c107
                     have H' := am_ H
                     clear H
                     have hnb115 := NB1001_1009.out
                     have hnc115 := NB1009_1001.out
                     have hcz116_0 := bc5_0 BK1001
                     have hcz116_1 := bc5_1 BK1001
                     have hcz116_2 := bc5_2 BK1001
                     have hcz116_3 := bc5_3 BK1001
                     have hcz116_4 := bc5_4 BK1001
                     have hfz116_0 := bf_ BK1001 0
                     have hfz116_1 := bf_ BK1001 1
                     have hfz116_2 := bf_ BK1001 2
                     have hfz116_3 := bf_ BK1001 3
                     have hfz116_4 := bf_ BK1001 4
                     have p1012 : 0 ≤ ((ji94) : Int) := od_
                     have q1012 : (ji94) < (l0_4.length : Int) := od_
                     obtain ⟨ad1012, A1012_0, c1012_0, e1012, hx1012_0, hx1012_1, hx1012_2, hl1012_0, hi1012_0⟩ := at_T87 HR0_4.out (ji94) p1012 q1012
                     obtain rfl : ad1008 = ad1012 := (by injection e1012)
                     replace hx1012_0 := kp_ HB hx1012_0
                     replace hx1012_1 := kp_ HB hx1012_1
                     replace hx1012_2 := kp_ HB hx1012_2
                     have HR1012_0 := am_ hi1012_0
                     have HC1012_0 := am_ hl1012_0
                     clear hi1012_0 hl1012_0
                     replace p1012 := eq_true p1012
                     replace q1012 := eq_true q1012
                     go_wp2_with (first | ((with_reducible refine gate_dst (N := 7) rfl ?_); (try (refine gate_guard (by rfl) ?_; dsimp only)); refine bx_ 7 #[.slice none 0 0, .int .i64 0, .int .i64 0] 87 ?_; intro gb1013 hg w117 hbox hb; have BK1013 := am_ (hbox); have GW1013 := am_ (gg_ hg : w.heap.size ≤ gb1013); have NB1001_1013 := am_ ((by rw [hg]; exact Nat.ne_of_lt (blk_lt (g := gb1001) (o := .cells #[.int .i64 a0_0, .int .i64 a0_1, .int .i64 a0_2, .slice A0_3 l0_3.length c0_3, .slice (some ad1008) l0_4.length c0_4] 31 (0, 0)) (vk_ BK1001)) : gb1001 ≠ gb1013)); have NB1013_1001 := am_ ((by rw [hg]; exact Nat.ne_of_gt (blk_lt (g := gb1001) (o := .cells #[.int .i64 a0_0, .int .i64 a0_1, .int .i64 a0_2, .slice A0_3 l0_3.length c0_3, .slice (some ad1008) l0_4.length c0_4] 31 (0, 0)) (vk_ BK1001)) : gb1013 ≠ gb1001)); have NB1009_1013 := am_ ((by rw [hg]; exact Nat.ne_of_lt (blk_lt (g := gb1009) (o := .cells #[.slice A1008_0 ((rd_T87 l0_4 x80_3).f0).length c1008_0, .int .i64 ((rd_T87 l0_4 x80_3).f1), .int .i64 ((rd_T87 l0_4 x80_3).f2)] 87 (0, 0)) (vk_ BK1009)) : gb1009 ≠ gb1013)); have NB1013_1009 := am_ ((by rw [hg]; exact Nat.ne_of_gt (blk_lt (g := gb1009) (o := .cells #[.slice A1008_0 ((rd_T87 l0_4 x80_3).f0).length c1008_0, .int .i64 ((rd_T87 l0_4 x80_3).f1), .int .i64 ((rd_T87 l0_4 x80_3).f2)] 87 (0, 0)) (vk_ BK1009)) : gb1013 ≠ gb1009)); replace BK1001 := am_ (blk_below (g := gb1001) (vk_ BK1001) hb); replace BK1009 := am_ (blk_below (g := gb1009) (vk_ BK1009) hb); replace HB := am_ (below_step bg_ hb); have GE1013 := GW1013; clear hb hbox hg; have hnb118 := NB1013_1001.out; have hnc118 := NB1001_1013.out; have hnb119 := NB1013_1009.out; have hnc119 := NB1009_1013.out; have hcz120_0 := bc3_0 BK1013; have hcz120_1 := bc3_1 BK1013; have hcz120_2 := bc3_2 BK1013; have hfz120_0 := bf_ BK1013 0; have hfz120_1 := bf_ BK1013 1; have hfz120_2 := bf_ BK1013 2; have hcz121_0 := bc3_0 BK1009; have hcz121_1 := bc3_1 BK1009; have hcz121_2 := bc3_2 BK1009; have hfz121_0 := bf_ BK1009 0; have hfz121_1 := bf_ BK1009 1; have hfz121_2 := bf_ BK1009 2) | (go_at_call 50; (with_reducible refine (spec_l2Cmp.calls kj48 _ _ ((rd_T87 l0_4 (ji94)).f0) _ _ ((rd_T87 l0_4 x80_3).f0) t1014 _ ?side1 ?side2 ?side3 ?side4 A97.out).mono ?_); (case side1 => exact Kd.C_below HR1012_0.out bg_); (case side2 => exact HC1012_0.out); (case side3 => exact Kd.C_below HR1008_0.out bg_); (case side4 => exact HC1008_0.out); rintro e w' ⟨rfl, ⟨nd, rfl⟩⟩; (try exact dd_)))
                     repeat (go_quiet (first | ((with_reducible refine gate_dst (N := 7) rfl ?_); (try (refine gate_guard (by rfl) ?_; dsimp only)); refine bx_ 7 #[.slice none 0 0, .int .i64 0, .int .i64 0] 87 ?_; intro gb1013 hg w117 hbox hb; have BK1013 := am_ (hbox); have GW1013 := am_ (gg_ hg : w.heap.size ≤ gb1013); have NB1001_1013 := am_ ((by rw [hg]; exact Nat.ne_of_lt (blk_lt (g := gb1001) (o := .cells #[.int .i64 a0_0, .int .i64 a0_1, .int .i64 a0_2, .slice A0_3 l0_3.length c0_3, .slice (some ad1008) l0_4.length c0_4] 31 (0, 0)) (vk_ BK1001)) : gb1001 ≠ gb1013)); have NB1013_1001 := am_ ((by rw [hg]; exact Nat.ne_of_gt (blk_lt (g := gb1001) (o := .cells #[.int .i64 a0_0, .int .i64 a0_1, .int .i64 a0_2, .slice A0_3 l0_3.length c0_3, .slice (some ad1008) l0_4.length c0_4] 31 (0, 0)) (vk_ BK1001)) : gb1013 ≠ gb1001)); have NB1009_1013 := am_ ((by rw [hg]; exact Nat.ne_of_lt (blk_lt (g := gb1009) (o := .cells #[.slice A1008_0 ((rd_T87 l0_4 x80_3).f0).length c1008_0, .int .i64 ((rd_T87 l0_4 x80_3).f1), .int .i64 ((rd_T87 l0_4 x80_3).f2)] 87 (0, 0)) (vk_ BK1009)) : gb1009 ≠ gb1013)); have NB1013_1009 := am_ ((by rw [hg]; exact Nat.ne_of_gt (blk_lt (g := gb1009) (o := .cells #[.slice A1008_0 ((rd_T87 l0_4 x80_3).f0).length c1008_0, .int .i64 ((rd_T87 l0_4 x80_3).f1), .int .i64 ((rd_T87 l0_4 x80_3).f2)] 87 (0, 0)) (vk_ BK1009)) : gb1013 ≠ gb1009)); replace BK1001 := am_ (blk_below (g := gb1001) (vk_ BK1001) hb); replace BK1009 := am_ (blk_below (g := gb1009) (vk_ BK1009) hb); replace HB := am_ (below_step bg_ hb); have GE1013 := GW1013; clear hb hbox hg; have hnb118 := NB1013_1001.out; have hnc118 := NB1001_1013.out; have hnb119 := NB1013_1009.out; have hnc119 := NB1009_1013.out; have hcz120_0 := bc3_0 BK1013; have hcz120_1 := bc3_1 BK1013; have hcz120_2 := bc3_2 BK1013; have hfz120_0 := bf_ BK1013 0; have hfz120_1 := bf_ BK1013 1; have hfz120_2 := bf_ BK1013 2; have hcz121_0 := bc3_0 BK1009; have hcz121_1 := bc3_1 BK1009; have hcz121_2 := bc3_2 BK1009; have hfz121_0 := bf_ BK1009 0; have hfz121_1 := bf_ BK1009 1; have hfz121_2 := bf_ BK1009 2) | (go_at_call 50; (with_reducible refine (spec_l2Cmp.calls kj48 _ _ ((rd_T87 l0_4 (ji94)).f0) _ _ ((rd_T87 l0_4 x80_3).f0) t1014 _ ?side1 ?side2 ?side3 ?side4 A97.out).mono ?_); (case side1 => exact Kd.C_below HR1012_0.out bg_); (case side2 => exact HC1012_0.out); (case side3 => exact Kd.C_below HR1008_0.out bg_); (case side4 => exact HC1008_0.out); rintro e w' ⟨rfl, ⟨nd, rfl⟩⟩; (try exact dd_))); try go_wp2)
                     go_roundg kj48
                     case measure => have := HJ1.out; have := HK2.out; have := HK3.out; have := HJ48.out; omega
                     case rel => exact ⟨(wrap64 (x80_3 + 1)), rs_, H', ⟨by have := HJ1.out; have := HK2.out; have := HK3.out; have := HJ48.out; omega⟩, ⟨by (with_reducible repeat (first | refine blk_drewN ?_ _ | refine blk_drew ?_ | refine blk_alloc ?_ _)); refine blk_far ?_ NB1001_1013.out _; (with_reducible repeat (first | refine blk_drewN ?_ _ | refine blk_drew ?_ | refine blk_alloc ?_ _)); refine blk_far ?_ NB1001_1013.out _; (with_reducible repeat (first | refine blk_drewN ?_ _ | refine blk_drew ?_ | refine blk_alloc ?_ _)); refine blk_far ?_ NB1001_1013.out _; (with_reducible repeat (first | refine blk_drewN ?_ _ | refine blk_drew ?_ | refine blk_alloc ?_ _)); exact BK1001.out⟩, ⟨bg_⟩⟩
                   ·rw [if_neg c106] at H
                    have c106b0 : (t1014 == 0) = false := beq_eq_false_iff_ne.mpr c106
                    have c106b1 : (t1014 != 0) = true := bne_iff_ne.mpr c106
                    have H' := am_ H
                    clear H
                    have hnb122 := NB1001_1009.out
                    have hnc122 := NB1009_1001.out
                    have hcz123_0 := bc5_0 BK1001
                    have hcz123_1 := bc5_1 BK1001
                    have hcz123_2 := bc5_2 BK1001
                    have hcz123_3 := bc5_3 BK1001
                    have hcz123_4 := bc5_4 BK1001
                    have hfz123_0 := bf_ BK1001 0
                    have hfz123_1 := bf_ BK1001 1
                    have hfz123_2 := bf_ BK1001 2
                    have hfz123_3 := bf_ BK1001 3
                    have hfz123_4 := bf_ BK1001 4
                    have p1012 : 0 ≤ ((ji94) : Int) := od_
                    have q1012 : (ji94) < (l0_4.length : Int) := od_
                    obtain ⟨ad1012, A1012_0, c1012_0, e1012, hx1012_0, hx1012_1, hx1012_2, hl1012_0, hi1012_0⟩ := at_T87 HR0_4.out (ji94) p1012 q1012
                    obtain rfl : ad1008 = ad1012 := (by injection e1012)
                    replace hx1012_0 := kp_ HB hx1012_0
                    replace hx1012_1 := kp_ HB hx1012_1
                    replace hx1012_2 := kp_ HB hx1012_2
                    have HR1012_0 := am_ hi1012_0
                    have HC1012_0 := am_ hl1012_0
                    clear hi1012_0 hl1012_0
                    replace p1012 := eq_true p1012
                    replace q1012 := eq_true q1012
                    go_wp2_with (first | ((with_reducible refine gate_dst (N := 7) rfl ?_); (try (refine gate_guard (by rfl) ?_; dsimp only)); refine bx_ 7 #[.slice none 0 0, .int .i64 0, .int .i64 0] 87 ?_; intro gb1013 hg w124 hbox hb; have BK1013 := am_ (hbox); have GW1013 := am_ (gg_ hg : w.heap.size ≤ gb1013); have NB1001_1013 := am_ ((by rw [hg]; exact Nat.ne_of_lt (blk_lt (g := gb1001) (o := .cells #[.int .i64 a0_0, .int .i64 a0_1, .int .i64 a0_2, .slice A0_3 l0_3.length c0_3, .slice (some ad1008) l0_4.length c0_4] 31 (0, 0)) (vk_ BK1001)) : gb1001 ≠ gb1013)); have NB1013_1001 := am_ ((by rw [hg]; exact Nat.ne_of_gt (blk_lt (g := gb1001) (o := .cells #[.int .i64 a0_0, .int .i64 a0_1, .int .i64 a0_2, .slice A0_3 l0_3.length c0_3, .slice (some ad1008) l0_4.length c0_4] 31 (0, 0)) (vk_ BK1001)) : gb1013 ≠ gb1001)); have NB1009_1013 := am_ ((by rw [hg]; exact Nat.ne_of_lt (blk_lt (g := gb1009) (o := .cells #[.slice A1008_0 ((rd_T87 l0_4 x80_3).f0).length c1008_0, .int .i64 ((rd_T87 l0_4 x80_3).f1), .int .i64 ((rd_T87 l0_4 x80_3).f2)] 87 (0, 0)) (vk_ BK1009)) : gb1009 ≠ gb1013)); have NB1013_1009 := am_ ((by rw [hg]; exact Nat.ne_of_gt (blk_lt (g := gb1009) (o := .cells #[.slice A1008_0 ((rd_T87 l0_4 x80_3).f0).length c1008_0, .int .i64 ((rd_T87 l0_4 x80_3).f1), .int .i64 ((rd_T87 l0_4 x80_3).f2)] 87 (0, 0)) (vk_ BK1009)) : gb1013 ≠ gb1009)); replace BK1001 := am_ (blk_below (g := gb1001) (vk_ BK1001) hb); replace BK1009 := am_ (blk_below (g := gb1009) (vk_ BK1009) hb); replace HB := am_ (below_step bg_ hb); have GE1013 := GW1013; clear hb hbox hg; have hnb125 := NB1013_1001.out; have hnc125 := NB1001_1013.out; have hnb126 := NB1013_1009.out; have hnc126 := NB1009_1013.out; have hcz127_0 := bc3_0 BK1013; have hcz127_1 := bc3_1 BK1013; have hcz127_2 := bc3_2 BK1013; have hfz127_0 := bf_ BK1013 0; have hfz127_1 := bf_ BK1013 1; have hfz127_2 := bf_ BK1013 2; have hcz128_0 := bc3_0 BK1009; have hcz128_1 := bc3_1 BK1009; have hcz128_2 := bc3_2 BK1009; have hfz128_0 := bf_ BK1009 0; have hfz128_1 := bf_ BK1009 1; have hfz128_2 := bf_ BK1009 2) | (go_at_call 50; (with_reducible refine (spec_l2Cmp.calls kj48 _ _ ((rd_T87 l0_4 (ji94)).f0) _ _ ((rd_T87 l0_4 x80_3).f0) t1014 _ ?side1 ?side2 ?side3 ?side4 A97.out).mono ?_); (case side1 => exact Kd.C_below HR1012_0.out bg_); (case side2 => exact HC1012_0.out); (case side3 => exact Kd.C_below HR1008_0.out bg_); (case side4 => exact HC1008_0.out); rintro e w' ⟨rfl, ⟨nd, rfl⟩⟩; (try exact dd_)))
                    repeat (go_quiet (first | ((with_reducible refine gate_dst (N := 7) rfl ?_); (try (refine gate_guard (by rfl) ?_; dsimp only)); refine bx_ 7 #[.slice none 0 0, .int .i64 0, .int .i64 0] 87 ?_; intro gb1013 hg w124 hbox hb; have BK1013 := am_ (hbox); have GW1013 := am_ (gg_ hg : w.heap.size ≤ gb1013); have NB1001_1013 := am_ ((by rw [hg]; exact Nat.ne_of_lt (blk_lt (g := gb1001) (o := .cells #[.int .i64 a0_0, .int .i64 a0_1, .int .i64 a0_2, .slice A0_3 l0_3.length c0_3, .slice (some ad1008) l0_4.length c0_4] 31 (0, 0)) (vk_ BK1001)) : gb1001 ≠ gb1013)); have NB1013_1001 := am_ ((by rw [hg]; exact Nat.ne_of_gt (blk_lt (g := gb1001) (o := .cells #[.int .i64 a0_0, .int .i64 a0_1, .int .i64 a0_2, .slice A0_3 l0_3.length c0_3, .slice (some ad1008) l0_4.length c0_4] 31 (0, 0)) (vk_ BK1001)) : gb1013 ≠ gb1001)); have NB1009_1013 := am_ ((by rw [hg]; exact Nat.ne_of_lt (blk_lt (g := gb1009) (o := .cells #[.slice A1008_0 ((rd_T87 l0_4 x80_3).f0).length c1008_0, .int .i64 ((rd_T87 l0_4 x80_3).f1), .int .i64 ((rd_T87 l0_4 x80_3).f2)] 87 (0, 0)) (vk_ BK1009)) : gb1009 ≠ gb1013)); have NB1013_1009 := am_ ((by rw [hg]; exact Nat.ne_of_gt (blk_lt (g := gb1009) (o := .cells #[.slice A1008_0 ((rd_T87 l0_4 x80_3).f0).length c1008_0, .int .i64 ((rd_T87 l0_4 x80_3).f1), .int .i64 ((rd_T87 l0_4 x80_3).f2)] 87 (0, 0)) (vk_ BK1009)) : gb1013 ≠ gb1009)); replace BK1001 := am_ (blk_below (g := gb1001) (vk_ BK1001) hb); replace BK1009 := am_ (blk_below (g := gb1009) (vk_ BK1009) hb); replace HB := am_ (below_step bg_ hb); have GE1013 := GW1013; clear hb hbox hg; have hnb125 := NB1013_1001.out; have hnc125 := NB1001_1013.out; have hnb126 := NB1013_1009.out; have hnc126 := NB1009_1013.out; have hcz127_0 := bc3_0 BK1013; have hcz127_1 := bc3_1 BK1013; have hcz127_2 := bc3_2 BK1013; have hfz127_0 := bf_ BK1013 0; have hfz127_1 := bf_ BK1013 1; have hfz127_2 := bf_ BK1013 2; have hcz128_0 := bc3_0 BK1009; have hcz128_1 := bc3_1 BK1009; have hcz128_2 := bc3_2 BK1009; have hfz128_0 := bf_ BK1009 0; have hfz128_1 := bf_ BK1009 1; have hfz128_2 := bf_ BK1009 2) | (go_at_call 50; (with_reducible refine (spec_l2Cmp.calls kj48 _ _ ((rd_T87 l0_4 (ji94)).f0) _ _ ((rd_T87 l0_4 x80_3).f0) t1014 _ ?side1 ?side2 ?side3 ?side4 A97.out).mono ?_); (case side1 => exact Kd.C_below HR1012_0.out bg_); (case side2 => exact HC1012_0.out); (case side3 => exact Kd.C_below HR1008_0.out bg_); (case side4 => exact HC1008_0.out); rintro e w' ⟨rfl, ⟨nd, rfl⟩⟩; (try exact dd_))); try go_wp2)
                    go_roundg kj48
                    case measure => have := HJ1.out; have := HK2.out; have := HK3.out; have := HJ48.out; omega
                    case rel => exact ⟨(wrap64 (x80_3 + 1)), rs_, H', ⟨by have := HJ1.out; have := HK2.out; have := HK3.out; have := HJ48.out; omega⟩, ⟨by (with_reducible repeat (first | refine blk_drewN ?_ _ | refine blk_drew ?_ | refine blk_alloc ?_ _)); refine blk_far ?_ NB1001_1013.out _; (with_reducible repeat (first | refine blk_drewN ?_ _ | refine blk_drew ?_ | refine blk_alloc ?_ _)); refine blk_far ?_ NB1001_1013.out _; (with_reducible repeat (first | refine blk_drewN ?_ _ | refine blk_drew ?_ | refine blk_alloc ?_ _)); refine blk_far ?_ NB1001_1013.out _; (with_reducible repeat (first | refine blk_drewN ?_ _ | refine blk_drew ?_ | refine blk_alloc ?_ _)); exact BK1001.out⟩, ⟨bg_⟩⟩
                 ·rw [if_neg c96] at H
                  exact absurd H (by simp)
                ·rw [if_neg c95] at H
                 exact absurd H (by simp)
           ·rw [if_neg c48] at H
            exact absurd H (by simp)
          ·rw [if_neg c47] at H
           exact absurd H (by simp)
         ·rw [if_neg c46] at H
          have c46b0 : decide (x80_3 < (l0_4.length : Int)) = false := decide_eq_false c46
          clear c46
          obtain rfl := Option.some.inj H
          go_wp2
          repeat (go_quiet (fail); try go_wp2)
          go_ret
          exact ⟨rf_, bg_⟩

end Go.Proofs.Ytknlgignjbghkaa.Pr
