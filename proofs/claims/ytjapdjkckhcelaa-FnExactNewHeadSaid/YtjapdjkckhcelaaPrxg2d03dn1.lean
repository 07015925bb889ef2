/- Functions of the given program as plain Lean functions, and that the machine's calls come to them; written by a program of this session; no condition but those that each theorem states. -/
import Derived.Test.YtjapdjkckhcelaaWRepsOne
import Derived.Test.YtjapdjkckhcelaaPrx0
import Derived.Test.YtjapdjkckhcelaaPrxg1cf53n1
import Derived.Test.YtjapdjkckhcelaaPrxgf8879n1
import Derived.Test.YtjapdjkckhcelaaPrxgdce2bn1
namespace Go.Proofs.Ytjapdjkckhcelaa.Pr
open Go.RowKit Go.Proofs.YtjapdjkckhcelaaW.PrintWords Go.Proofs.YtjapdjkckhcelaaW.PrintLast Go.Proofs.YtjapdjkckhcelaaW.PrintMore
attribute [local go_sem] max2_int min2_int max_two min_two max_three min_three max_four min_four   -- for this text's walks alone
set_option linter.unusedVariables false
set_option linter.unusedSimpArgs false

/-! ### spec_NewHead: function 50 -/
def spec_NewHead.f (a0 : Int) (a1 : Int) : Option (Int × Int × Int × (List (S142))) := (spec_l3Time.f a0).bind fun t1002 => (if t1002 = true then (if a1 < 0 then (some (0, 0, 0, ([] : List (S142)))) else (if a1 > 200 then (some (0, 0, 0, ([] : List (S142)))) else (some (a0, a1, (-1), ([] : List (S142)))))) else (some (0, 0, 0, ([] : List (S142)))))
set_option maxHeartbeats 8000000 in
set_option maxRecDepth 100000 in
theorem spec_NewHead.calls (a0 : Int) (a1 : Int) (r1 : Int) (r2 : Int) (r3 : Int) (r4 : List (S142)) (w : World) (h : spec_NewHead.f a0 a1 = some (r1, r2, r3, r4)) :
  Calls Try.prog 50 #[.int .i64 a0, .int .i64 a1] w fun e w' => ∃ v3_ : Value, e = .returned (.agg #[.int .i64 r1, .int .i64 r2, .int .i64 r3, v3_]) ∧ Kd.S k142 142 w' w.heap.size (fun _ => True) v3_ r4 ∧ Below w.heap.size w w' := by
 have hu67 := Try.underlying67
 have HB := am_ (Below.refl w.heap.size w)
 have H : ((spec_l3Time.f a0).bind fun t1002 => (if t1002 = true then (if a1 < 0 then (some (0, 0, 0, ([] : List (S142)))) else (if a1 > 200 then (some (0, 0, 0, ([] : List (S142)))) else (some (a0, a1, (-1), ([] : List (S142)))))) else (some (0, 0, 0, ([] : List (S142)))))) = some (r1, r2, r3, r4) := h
 clear h
 replace H := Option.bind_eq_some_iff.mp H
 obtain ⟨t1002, A30, H⟩ := H
 replace H : (if t1002 = true then (if a1 < 0 then (some (0, 0, 0, ([] : List (S142)))) else (if a1 > 200 then (some (0, 0, 0, ([] : List (S142)))) else (some (a0, a1, (-1), ([] : List (S142)))))) else (some (0, 0, 0, ([] : List (S142))))) = some (r1, r2, r3, r4) := H
 have A3 := am_ A30
 clear A30
 by_cases c4 : t1002 = true
 ·subst c4
  have H1 : (if a1 < 0 then (some (0, 0, 0, ([] : List (S142)))) else (if a1 > 200 then (some (0, 0, 0, ([] : List (S142)))) else (some (a0, a1, (-1), ([] : List (S142)))))) = some (r1, r2, r3, r4) := by rw [if_pos rfl] at H; exact H
  clear H
  have H := H1
  clear H1
  by_cases c5 : a1 < 0
  ·rw [if_pos c5] at H
   have c5b0 : decide (a1 < 0) = true := decide_eq_true c5
   clear c5
   simp only [Option.some.injEq, Prod.mk.injEq] at H
   obtain ⟨rfl, rfl, rfl, rfl⟩ := H
   go_enter Try.func50, Try.ntmps50
   go_wp2_with (first | ((with_reducible refine gate_dst (N := 4) rfl ?_); refine box_event ?hg (N := 4) ?hd (cs := #[.int .i64 0, .int .i64 0, .int .i64 0, .slice none 0 0]) (t := 67) ?hr ?_; (case hd => rfl); (case hg => rfl); (case hr => first | (go_simp; done) | (go_simp; rfl)); intro gb1001 hg w6 hbox hb; have n0_ := am_ (below_step bl_ hb); have n1_ := am_ (hbox); have n2_ := am_ (gs_ hg : w.heap.size ≤ gb1001); have n3_ := n2_; clear HB; have HB := n0_; have BK1001 := n1_; have GW1001 := n2_; have GE1001 := n3_; clear n0_ n1_ n2_ n3_; clear hb hbox hg) | ((with_reducible refine gate_callee (f := 73) rfl ?_); refine goesL_ (some 6) rfl rfl Try.func73 (by kernel_rfl) rfl #[.int .i64 a0] rfl ag_ ?_; (with_reducible refine (spec_l3Time.calls a0 true _ A3.out).mono ?_); rintro e w' ⟨rfl, ⟨nd, rfl⟩⟩; refine ⟨_, rfl, ?_⟩; (try (rw [drewN_self w6]; generalize hq_ : World.drewN w6 _ = w6; have n0_ : Aside0 (w6.heap[gb1001]? = some (.cells #[.int .i64 0, .int .i64 0, .int .i64 0, .slice none 0 0] 67 (0, 0))) := ⟨by rw [← hq_]; exact (vk_ BK1001)⟩; have n1_ : Aside0 (Below w.heap.size w w6) := ⟨by rw [← hq_]; exact bg_⟩; clear BK1001 HB hq_; have BK1001 := n0_; have HB := n1_; clear n0_ n1_)); have hcz7_0 := bc4_0 BK1001; have hcz7_1 := bc4_1 BK1001; have hcz7_2 := bc4_2 BK1001; have hcz7_3 := bc4_3 BK1001; have hfz7_0 := bf_ BK1001 0; have hfz7_1 := bf_ BK1001 1; have hfz7_2 := bf_ BK1001 2; have hfz7_3 := bf_ BK1001 3))
   refine bodyPost_ret (results_cell_row rfl _ _ gb1001 67 #[.int .i64 0, .int .i64 0, .int .i64 0, .slice none 0 0] (0, 0) _ rfl (by (with_reducible repeat (first | refine blk_drewN ?_ _ | refine blk_drew ?_ | refine blk_alloc ?_ _)); refine blk_put (cs := #[.int .i64 0, .int .i64 0, .int .i64 0, .slice none 0 0]) ?_ 3 _ rfl; (with_reducible repeat (first | refine blk_drewN ?_ _ | refine blk_drew ?_ | refine blk_alloc ?_ _)); refine blk_put (cs := #[.int .i64 0, .int .i64 0, .int .i64 0, .slice none 0 0]) ?_ 2 _ rfl; (with_reducible repeat (first | refine blk_drewN ?_ _ | refine blk_drew ?_ | refine blk_alloc ?_ _)); refine blk_put (cs := #[.int .i64 0, .int .i64 0, .int .i64 0, .slice none 0 0]) ?_ 1 _ rfl; (with_reducible repeat (first | refine blk_drewN ?_ _ | refine blk_drew ?_ | refine blk_alloc ?_ _)); refine blk_put (cs := #[.int .i64 0, .int .i64 0, .int .i64 0, .slice none 0 0]) ?_ 0 _ rfl; (with_reducible repeat (first | refine blk_drewN ?_ _ | refine blk_drew ?_ | refine blk_alloc ?_ _)); exact BK1001.out) Try.underlying67 rfl (by kernel_rfl)) rfl ?_
   exact ⟨_, rf_, by first | exact Kd.S_nil _ _ _ _ _ | exact Kd.N_nil _ _ _ _ _ | exact Kd.V_nil _ _ _ _ _ | exact Kd.Q_nil _ _ _ _ _ | exact Kd.R_nil _ _ _ _ _, bg_⟩
  ·rw [if_neg c5] at H
   have c5b0 : decide (a1 < 0) = false := decide_eq_false c5
   clear c5
   by_cases c8 : a1 > 200
   ·rw [if_pos c8] at H
    have c8b0 : decide (200 < a1) = true := decide_eq_true c8
    clear c8
    simp only [Option.some.injEq, Prod.mk.injEq] at H
    obtain ⟨rfl, rfl, rfl, rfl⟩ := H
    go_enter Try.func50, Try.ntmps50
    go_wp2_with (first | ((with_reducible refine gate_dst (N := 4) rfl ?_); refine box_event ?hg (N := 4) ?hd (cs := #[.int .i64 0, .int .i64 0, .int .i64 0, .slice none 0 0]) (t := 67) ?hr ?_; (case hd => rfl); (case hg => rfl); (case hr => first | (go_simp; done) | (go_simp; rfl)); intro gb1001 hg w9 hbox hb; have n0_ := am_ (below_step bl_ hb); have n1_ := am_ (hbox); have n2_ := am_ (gs_ hg : w.heap.size ≤ gb1001); have n3_ := n2_; clear HB; have HB := n0_; have BK1001 := n1_; have GW1001 := n2_; have GE1001 := n3_; clear n0_ n1_ n2_ n3_; clear hb hbox hg) | ((with_reducible refine gate_callee (f := 73) rfl ?_); refine goesL_ (some 6) rfl rfl Try.func73 (by kernel_rfl) rfl #[.int .i64 a0] rfl ag_ ?_; (with_reducible refine (spec_l3Time.calls a0 true _ A3.out).mono ?_); rintro e w' ⟨rfl, ⟨nd, rfl⟩⟩; refine ⟨_, rfl, ?_⟩; (try (rw [drewN_self w9]; generalize hq_ : World.drewN w9 _ = w9; have n0_ : Aside0 (w9.heap[gb1001]? = some (.cells #[.int .i64 0, .int .i64 0, .int .i64 0, .slice none 0 0] 67 (0, 0))) := ⟨by rw [← hq_]; exact (vk_ BK1001)⟩; have n1_ : Aside0 (Below w.heap.size w w9) := ⟨by rw [← hq_]; exact bg_⟩; clear BK1001 HB hq_; have BK1001 := n0_; have HB := n1_; clear n0_ n1_)); have hcz10_0 := bc4_0 BK1001; have hcz10_1 := bc4_1 BK1001; have hcz10_2 := bc4_2 BK1001; have hcz10_3 := bc4_3 BK1001; have hfz10_0 := bf_ BK1001 0; have hfz10_1 := bf_ BK1001 1; have hfz10_2 := bf_ BK1001 2; have hfz10_3 := bf_ BK1001 3))
    refine bodyPost_ret (results_cell_row rfl _ _ gb1001 67 #[.int .i64 0, .int .i64 0, .int .i64 0, .slice none 0 0] (0, 0) _ rfl (by (with_reducible repeat (first | refine blk_drewN ?_ _ | refine blk_drew ?_ | refine blk_alloc ?_ _)); refine blk_put (cs := #[.int .i64 0, .int .i64 0, .int .i64 0, .slice none 0 0]) ?_ 3 _ rfl; (with_reducible repeat (first | refine blk_drewN ?_ _ | refine blk_drew ?_ | refine blk_alloc ?_ _)); refine blk_put (cs := #[.int .i64 0, .int .i64 0, .int .i64 0, .slice none 0 0]) ?_ 2 _ rfl; (with_reducible repeat (first | refine blk_drewN ?_ _ | refine blk_drew ?_ | refine blk_alloc ?_ _)); refine blk_put (cs := #[.int .i64 0, .int .i64 0, .int .i64 0, .slice none 0 0]) ?_ 1 _ rfl; (with_reducible repeat (first | refine blk_drewN ?_ _ | refine blk_drew ?_ | refine blk_alloc ?_ _)); refine blk_put (cs := #[.int .i64 0, .int .i64 0, .int .i64 0, .slice none 0 0]) ?_ 0 _ rfl; (with_reducible repeat (first | refine blk_drewN ?_ _ | refine blk_drew ?_ | refine blk_alloc ?_ _)); exact BK1001.out) Try.underlying67 rfl (by kernel_rfl)) rfl ?_
    exact ⟨_, rf_, by first | exact Kd.S_nil _ _ _ _ _ | exact Kd.N_nil _ _ _ _ _ | exact Kd.V_nil _ _ _ _ _ | exact Kd.Q_nil _ _ _ _ _ | exact Kd.R_nil _ _ _ _ _, bg_⟩
   ·rw [if_neg c8] at H
    have c8b0 : decide (200 < a1) = false := decide_eq_false c8
    clear c8
    simp only [Option.some.injEq, Prod.mk.injEq] at H
    obtain ⟨rfl, rfl, rfl, rfl⟩ := H
    go_enter Try.func50, Try.ntmps50
    go_wp2_with (first | ((with_reducible refine gate_dst (N := 4) rfl ?_); refine box_event ?hg (N := 4) ?hd (cs := #[.int .i64 0, .int .i64 0, .int .i64 0, .slice none 0 0]) (t := 67) ?hr ?_; (case hd => rfl); (case hg => rfl); (case hr => first | (go_simp; done) | (go_simp; rfl)); intro gb1001 hg w11 hbox hb; have n0_ := am_ (below_step bl_ hb); have n1_ := am_ (hbox); have n2_ := am_ (gs_ hg : w.heap.size ≤ gb1001); have n3_ := n2_; clear HB; have HB := n0_; have BK1001 := n1_; have GW1001 := n2_; have GE1001 := n3_; clear n0_ n1_ n2_ n3_; clear hb hbox hg) | ((with_reducible refine gate_callee (f := 73) rfl ?_); refine goesL_ (some 6) rfl rfl Try.func73 (by kernel_rfl) rfl #[.int .i64 a0] rfl ag_ ?_; (with_reducible refine (spec_l3Time.calls a0 true _ A3.out).mono ?_); rintro e w' ⟨rfl, ⟨nd, rfl⟩⟩; refine ⟨_, rfl, ?_⟩; (try (rw [drewN_self w11]; generalize hq_ : World.drewN w11 _ = w11; have n0_ : Aside0 (w11.heap[gb1001]? = some (.cells #[.int .i64 0, .int .i64 0, .int .i64 0, .slice none 0 0] 67 (0, 0))) := ⟨by rw [← hq_]; exact (vk_ BK1001)⟩; have n1_ : Aside0 (Below w.heap.size w w11) := ⟨by rw [← hq_]; exact bg_⟩; clear BK1001 HB hq_; have BK1001 := n0_; have HB := n1_; clear n0_ n1_)); have hcz12_0 := bc4_0 BK1001; have hcz12_1 := bc4_1 BK1001; have hcz12_2 := bc4_2 BK1001; have hcz12_3 := bc4_3 BK1001; have hfz12_0 := bf_ BK1001 0; have hfz12_1 := bf_ BK1001 1; have hfz12_2 := bf_ BK1001 2; have hfz12_3 := bf_ BK1001 3))
    refine bodyPost_ret (results_cell_row rfl _ _ gb1001 67 #[.int .i64 a0, .int .i64 a1, .int .i64 (-1), .slice none 0 0] (0, 0) _ rfl (by (with_reducible repeat (first | refine blk_drewN ?_ _ | refine blk_drew ?_ | refine blk_alloc ?_ _)); refine blk_put (cs := #[.int .i64 a0, .int .i64 a1, .int .i64 (-1), .slice none 0 0]) ?_ 3 _ rfl; (with_reducible repeat (first | refine blk_drewN ?_ _ | refine blk_drew ?_ | refine blk_alloc ?_ _)); refine blk_put (cs := #[.int .i64 a0, .int .i64 a1, .int .i64 0, .slice none 0 0]) ?_ 2 _ rfl; (with_reducible repeat (first | refine blk_drewN ?_ _ | refine blk_drew ?_ | refine blk_alloc ?_ _)); refine blk_put (cs := #[.int .i64 a0, .int .i64 0, .int .i64 0, .slice none 0 0]) ?_ 1 _ rfl; (with_reducible repeat (first | refine blk_drewN ?_ _ | refine blk_drew ?_ | refine blk_alloc ?_ _)); refine blk_put (cs := #[.int .i64 0, .int .i64 0, .int .i64 0, .slice none 0 0]) ?_ 0 _ rfl; (with_reducible repeat (first | refine blk_drewN ?_ _ | refine blk_drew ?_ | refine blk_alloc ?_ _)); exact BK1001.out) Try.underlying67 rfl (by kernel_rfl)) rfl ?_
    exact ⟨_, rf_, by first | exact Kd.S_nil _ _ _ _ _ | exact Kd.N_nil _ _ _ _ _ | exact Kd.V_nil _ _ _ _ _ | exact Kd.Q_nil _ _ _ _ _ | exact Kd.R_nil _ _ _ _ _, bg_⟩
 ·replace c4 := Bool.eq_false_iff.mpr c4
  subst c4
  have H1 : (some (0, 0, 0, ([] : List (S142)))) = some (r1, r2, r3, r4) := by rw [if_neg (show ¬ (false = true) by decide)] at H; exact H
  clear H
  have H := H1
  clear H1
  simp only [Option.some.injEq, Prod.mk.injEq] at H
  obtain ⟨rfl, rfl, rfl, rfl⟩ := H
  go_enter Try.func50, Try.ntmps50
  go_wp2_with (first | ((with_reducible refine gate_dst (N := 4) rfl ?_); refine box_event ?hg (N := 4) ?hd (cs := #[.int .i64 0, .int .i64 0, .int .i64 0, .slice none 0 0]) (t := 67) ?hr ?_; (case hd => rfl); (case hg => rfl); (case hr => first | (go_simp; done) | (go_simp; rfl)); intro gb1001 hg w13 hbox hb; have n0_ := am_ (below_step bl_ hb); have n1_ := am_ (hbox); have n2_ := am_ (gs_ hg : w.heap.size ≤ gb1001); have n3_ := n2_; clear HB; have HB := n0_; have BK1001 := n1_; have GW1001 := n2_; have GE1001 := n3_; clear n0_ n1_ n2_ n3_; clear hb hbox hg) | ((with_reducible refine gate_callee (f := 73) rfl ?_); refine goesL_ (some 6) rfl rfl Try.func73 (by kernel_rfl) rfl #[.int .i64 a0] rfl ag_ ?_; (with_reducible refine (spec_l3Time.calls a0 false _ A3.out).mono ?_); rintro e w' ⟨rfl, ⟨nd, rfl⟩⟩; refine ⟨_, rfl, ?_⟩; (try (rw [drewN_self w13]; generalize hq_ : World.drewN w13 _ = w13; have n0_ : Aside0 (w13.heap[gb1001]? = some (.cells #[.int .i64 0, .int .i64 0, .int .i64 0, .slice none 0 0] 67 (0, 0))) := ⟨by rw [← hq_]; exact (vk_ BK1001)⟩; have n1_ : Aside0 (Below w.heap.size w w13) := ⟨by rw [← hq_]; exact bg_⟩; clear BK1001 HB hq_; have BK1001 := n0_; have HB := n1_; clear n0_ n1_)); have hcz14_0 := bc4_0 BK1001; have hcz14_1 := bc4_1 BK1001; have hcz14_2 := bc4_2 BK1001; have hcz14_3 := bc4_3 BK1001; have hfz14_0 := bf_ BK1001 0; have hfz14_1 := bf_ BK1001 1; have hfz14_2 := bf_ BK1001 2; have hfz14_3 := bf_ BK1001 3))
  refine bodyPost_ret (results_cell_row rfl _ _ gb1001 67 #[.int .i64 0, .int .i64 0, .int .i64 0, .slice none 0 0] (0, 0) _ rfl (by (with_reducible repeat (first | refine blk_drewN ?_ _ | refine blk_drew ?_ | refine blk_alloc ?_ _)); refine blk_put (cs := #[.int .i64 0, .int .i64 0, .int .i64 0, .slice none 0 0]) ?_ 3 _ rfl; (with_reducible repeat (first | refine blk_drewN ?_ _ | refine blk_drew ?_ | refine blk_alloc ?_ _)); refine blk_put (cs := #[.int .i64 0, .int .i64 0, .int .i64 0, .slice none 0 0]) ?_ 2 _ rfl; (with_reducible repeat (first | refine blk_drewN ?_ _ | refine blk_drew ?_ | refine blk_alloc ?_ _)); refine blk_put (cs := #[.int .i64 0, .int .i64 0, .int .i64 0, .slice none 0 0]) ?_ 1 _ rfl; (with_reducible repeat (first | refine blk_drewN ?_ _ | refine blk_drew ?_ | refine blk_alloc ?_ _)); refine blk_put (cs := #[.int .i64 0, .int .i64 0, .int .i64 0, .slice none 0 0]) ?_ 0 _ rfl; (with_reducible repeat (first | refine blk_drewN ?_ _ | refine blk_drew ?_ | refine blk_alloc ?_ _)); exact BK1001.out) Try.underlying67 rfl (by kernel_rfl)) rfl ?_
  exact ⟨_, rf_, by first | exact Kd.S_nil _ _ _ _ _ | exact Kd.N_nil _ _ _ _ _ | exact Kd.V_nil _ _ _ _ _ | exact Kd.Q_nil _ _ _ _ _ | exact Kd.R_nil _ _ _ _ _, bg_⟩

/-! ### impl_goodWindow: function 102 -/
def impl_goodWindow.f (a0 : Int) (a1 : Int) : Option (Bool) := (impl_isTime.f a0).bind fun t1001 => (if t1001 = true then (if a1 ≥ 0 then (some (decide (a1 ≤ 200))) else (some false)) else (some false))
set_option maxHeartbeats 8000000 in
set_option maxRecDepth 100000 in
theorem impl_goodWindow.calls (a0 : Int) (a1 : Int) (r : Bool) (w : World) (h : impl_goodWindow.f a0 a1 = some r) :
  Calls Try.prog 102 #[.int .i64 a0, .int .i64 a1] w fun e w' => e = .returned (.bool r) ∧ Drawn0 w w' := by
 have H : ((impl_isTime.f a0).bind fun t1001 => (if t1001 = true then (if a1 ≥ 0 then (some (decide (a1 ≤ 200))) else (some false)) else (some false))) = some r := h
 clear h
 replace H := Option.bind_eq_some_iff.mp H
 obtain ⟨t1001, A30, H⟩ := H
 replace H : (if t1001 = true then (if a1 ≥ 0 then (some (decide (a1 ≤ 200))) else (some false)) else (some false)) = some r := H
 have A3 := am_ A30
 clear A30
 by_cases c4 : t1001 = true
 ·subst c4
  have H1 : (if a1 ≥ 0 then (some (decide (a1 ≤ 200))) else (some false)) = some r := by rw [if_pos rfl] at H; exact H
  clear H
  have H := H1
  clear H1
  by_cases c5 : a1 ≥ 0
  ·rw [if_pos c5] at H
   have c5b0 : decide (0 ≤ a1) = true := decide_eq_true c5
   clear c5
   obtain rfl := Option.some.inj H
   go_enter Try.func102, Try.ntmps102
   go_wp2_with (first | ((with_reducible refine gate_callee (f := 77) rfl ?_); refine goesL_ (some 6) rfl rfl Try.func77 (by kernel_rfl) rfl #[.int .i64 a0] rfl ag_ ?_; (with_reducible refine (impl_isTime.calls a0 true _ A3.out).mono ?_); rintro e w' ⟨rfl, ⟨nd, rfl⟩⟩; refine ⟨_, rfl, ?_⟩))
   go_ret
   exact ⟨by first | rfl | (simp; done) | (simp [*]; done), by repeat (first | exact Drawn0.refl _ | apply Drawn0.step)⟩
  ·rw [if_neg c5] at H
   have c5b0 : decide (0 ≤ a1) = false := decide_eq_false c5
   clear c5
   obtain rfl := Option.some.inj H
   go_enter Try.func102, Try.ntmps102
   go_wp2_with (first | ((with_reducible refine gate_callee (f := 77) rfl ?_); refine goesL_ (some 6) rfl rfl Try.func77 (by kernel_rfl) rfl #[.int .i64 a0] rfl ag_ ?_; (with_reducible refine (impl_isTime.calls a0 true _ A3.out).mono ?_); rintro e w' ⟨rfl, ⟨nd, rfl⟩⟩; refine ⟨_, rfl, ?_⟩))
   go_ret
   exact ⟨by first | rfl | (simp; done) | (simp [*]; done), by repeat (first | exact Drawn0.refl _ | apply Drawn0.step)⟩
 ·replace c4 := Bool.eq_false_iff.mpr c4
  subst c4
  have H1 : (some false) = some r := by rw [if_neg (show ¬ (false = true) by decide)] at H; exact H
  clear H
  have H := H1
  clear H1
  obtain rfl := Option.some.inj H
  go_enter Try.func102, Try.ntmps102
  go_wp2_with (first | ((with_reducible refine gate_callee (f := 77) rfl ?_); refine goesL_ (some 6) rfl rfl Try.func77 (by kernel_rfl) rfl #[.int .i64 a0] rfl ag_ ?_; (with_reducible refine (impl_isTime.calls a0 false _ A3.out).mono ?_); rintro e w' ⟨rfl, ⟨nd, rfl⟩⟩; refine ⟨_, rfl, ?_⟩))
  go_ret
  exact ⟨by first | rfl | (simp; done) | (simp [*]; done), by repeat (first | exact Drawn0.refl _ | apply Drawn0.step)⟩

/-! ### impl_NewHead: function 51 -/
def impl_NewHead.f (a0 : Int) (a1 : Int) : Option (Int × Int × Int × (List (S142))) := (impl_goodWindow.f a0 a1).bind fun t1002 => (if t1002 = true then (some (a0, a1, (-1), ([] : List (S142)))) else (some (0, 0, 0, ([] : List (S142)))))
set_option maxHeartbeats 8000000 in
set_option maxRecDepth 100000 in
theorem impl_NewHead.calls (a0 : Int) (a1 : Int) (r1 : Int) (r2 : Int) (r3 : Int) (r4 : List (S142)) (w : World) (h : impl_NewHead.f a0 a1 = some (r1, r2, r3, r4)) :
  Calls Try.prog 51 #[.int .i64 a0, .int .i64 a1] w fun e w' => ∃ v3_ : Value, e = .returned (.agg #[.int .i64 r1, .int .i64 r2, .int .i64 r3, v3_]) ∧ Kd.S k142 142 w' w.heap.size (fun _ => True) v3_ r4 ∧ Below w.heap.size w w' := by
 have hu67 := Try.underlying67
 have HB := am_ (Below.refl w.heap.size w)
 have H : ((impl_goodWindow.f a0 a1).bind fun t1002 => (if t1002 = true then (some (a0, a1, (-1), ([] : List (S142)))) else (some (0, 0, 0, ([] : List (S142)))))) = some (r1, r2, r3, r4) := h
 clear h
 replace H := Option.bind_eq_some_iff.mp H
 obtain ⟨t1002, A30, H⟩ := H
 replace H : (if t1002 = true then (some (a0, a1, (-1), ([] : List (S142)))) else (some (0, 0, 0, ([] : List (S142))))) = some (r1, r2, r3, r4) := H
 have A3 := am_ A30
 clear A30
 by_cases c4 : t1002 = true
 ·subst c4
  have H1 : (some (a0, a1, (-1), ([] : List (S142)))) = some (r1, r2, r3, r4) := by rw [if_pos rfl] at H; exact H
  clear H
  have H := H1
  clear H1
  simp only [Option.some.injEq, Prod.mk.injEq] at H
  obtain ⟨rfl, rfl, rfl, rfl⟩ := H
  go_enter Try.func51, Try.ntmps51
  go_wp2_with (first | ((with_reducible refine gate_dst (N := 4) rfl ?_); refine box_event ?hg (N := 4) ?hd (cs := #[.int .i64 0, .int .i64 0, .int .i64 0, .slice none 0 0]) (t := 67) ?hr ?_; (case hd => rfl); (case hg => rfl); (case hr => first | (go_simp; done) | (go_simp; rfl)); intro gb1001 hg w5 hbox hb; have n0_ := am_ (below_step bl_ hb); have n1_ := am_ (hbox); have n2_ := am_ (gs_ hg : w.heap.size ≤ gb1001); have n3_ := n2_; clear HB; have HB := n0_; have BK1001 := n1_; have GW1001 := n2_; have GE1001 := n3_; clear n0_ n1_ n2_ n3_; clear hb hbox hg) | ((with_reducible refine gate_callee (f := 102) rfl ?_); refine goesL_ (some 7) rfl rfl Try.func102 (by kernel_rfl) rfl #[.int .i64 a0, .int .i64 a1] rfl ag_ ?_; (with_reducible refine (impl_goodWindow.calls a0 a1 true _ A3.out).mono ?_); rintro e w' ⟨rfl, ⟨nd, rfl⟩⟩; refine ⟨_, rfl, ?_⟩; (try (rw [drewN_self w5]; generalize hq_ : World.drewN w5 _ = w5; have n0_ : Aside0 (w5.heap[gb1001]? = some (.cells #[.int .i64 0, .int .i64 0, .int .i64 0, .slice none 0 0] 67 (0, 0))) := ⟨by rw [← hq_]; exact (vk_ BK1001)⟩; have n1_ : Aside0 (Below w.heap.size w w5) := ⟨by rw [← hq_]; exact bg_⟩; clear BK1001 HB hq_; have BK1001 := n0_; have HB := n1_; clear n0_ n1_)); have hcz6_0 := bc4_0 BK1001; have hcz6_1 := bc4_1 BK1001; have hcz6_2 := bc4_2 BK1001; have hcz6_3 := bc4_3 BK1001; have hfz6_0 := bf_ BK1001 0; have hfz6_1 := bf_ BK1001 1; have hfz6_2 := bf_ BK1001 2; have hfz6_3 := bf_ BK1001 3))
  refine bodyPost_ret (results_cell_row rfl _ _ gb1001 67 #[.int .i64 a0, .int .i64 a1, .int .i64 (-1), .slice none 0 0] (0, 0) _ rfl (by (with_reducible repeat (first | refine blk_drewN ?_ _ | refine blk_drew ?_ | refine blk_alloc ?_ _)); refine blk_put (cs := #[.int .i64 a0, .int .i64 a1, .int .i64 (-1), .slice none 0 0]) ?_ 3 _ rfl; (with_reducible repeat (first | refine blk_drewN ?_ _ | refine blk_drew ?_ | refine blk_alloc ?_ _)); refine blk_put (cs := #[.int .i64 a0, .int .i64 a1, .int .i64 0, .slice none 0 0]) ?_ 2 _ rfl; (with_reducible repeat (first | refine blk_drewN ?_ _ | refine blk_drew ?_ | refine blk_alloc ?_ _)); refine blk_put (cs := #[.int .i64 a0, .int .i64 0, .int .i64 0, .slice none 0 0]) ?_ 1 _ rfl; (with_reducible repeat (first | refine blk_drewN ?_ _ | refine blk_drew ?_ | refine blk_alloc ?_ _)); refine blk_put (cs := #[.int .i64 0, .int .i64 0, .int .i64 0, .slice none 0 0]) ?_ 0 _ rfl; (with_reducible repeat (first | refine blk_drewN ?_ _ | refine blk_drew ?_ | refine blk_alloc ?_ _)); exact BK1001.out) Try.underlying67 rfl (by kernel_rfl)) rfl ?_
  exact ⟨_, rf_, by first | exact Kd.S_nil _ _ _ _ _ | exact Kd.N_nil _ _ _ _ _ | exact Kd.V_nil _ _ _ _ _ | exact Kd.Q_nil _ _ _ _ _ | exact Kd.R_nil _ _ _ _ _, bg_⟩
 ·replace c4 := Bool.eq_false_iff.mpr c4
  subst c4
  have H1 : (some (0, 0, 0, ([] : List (S142)))) = some (r1, r2, r3, r4) := by rw [if_neg (show ¬ (false = true) by decide)] at H; exact H
  clear H
  have H := H1
  clear H1
  simp only [Option.some.injEq, Prod.mk.injEq] at H
  obtain ⟨rfl, rfl, rfl, rfl⟩ := H
  go_enter Try.func51, Try.ntmps51
  go_wp2_with (first | ((with_reducible refine gate_dst (N := 4) rfl ?_); refine box_event ?hg (N := 4) ?hd (cs := #[.int .i64 0, .int .i64 0, .int .i64 0, .slice none 0 0]) (t := 67) ?hr ?_; (case hd => rfl); (case hg => rfl); (case hr => first | (go_simp; done) | (go_simp; rfl)); intro gb1001 hg w7 hbox hb; have n0_ := am_ (below_step bl_ hb); have n1_ := am_ (hbox); have n2_ := am_ (gs_ hg : w.heap.size ≤ gb1001); have n3_ := n2_; clear HB; have HB := n0_; have BK1001 := n1_; have GW1001 := n2_; have GE1001 := n3_; clear n0_ n1_ n2_ n3_; clear hb hbox hg) | ((with_reducible refine gate_callee (f := 102) rfl ?_); refine goesL_ (some 7) rfl rfl Try.func102 (by kernel_rfl) rfl #[.int .i64 a0, .int .i64 a1] rfl ag_ ?_; (with_reducible refine (impl_goodWindow.calls a0 a1 false _ A3.out).mono ?_); rintro e w' ⟨rfl, ⟨nd, rfl⟩⟩; refine ⟨_, rfl, ?_⟩; (try (rw [drewN_self w7]; generalize hq_ : World.drewN w7 _ = w7; have n0_ : Aside0 (w7.heap[gb1001]? = some (.cells #[.int .i64 0, .int .i64 0, .int .i64 0, .slice none 0 0] 67 (0, 0))) := ⟨by rw [← hq_]; exact (vk_ BK1001)⟩; have n1_ : Aside0 (Below w.heap.size w w7) := ⟨by rw [← hq_]; exact bg_⟩; clear BK1001 HB hq_; have BK1001 := n0_; have HB := n1_; clear n0_ n1_)); have hcz8_0 := bc4_0 BK1001; have hcz8_1 := bc4_1 BK1001; have hcz8_2 := bc4_2 BK1001; have hcz8_3 := bc4_3 BK1001; have hfz8_0 := bf_ BK1001 0; have hfz8_1 := bf_ BK1001 1; have hfz8_2 := bf_ BK1001 2; have hfz8_3 := bf_ BK1001 3))
  refine bodyPost_ret (results_cell_row rfl _ _ gb1001 67 #[.int .i64 0, .int .i64 0, .int .i64 0, .slice none 0 0] (0, 0) _ rfl (by (with_reducible repeat (first | refine blk_drewN ?_ _ | refine blk_drew ?_ | refine blk_alloc ?_ _)); refine blk_put (cs := #[.int .i64 0, .int .i64 0, .int .i64 0, .slice none 0 0]) ?_ 3 _ rfl; (with_reducible repeat (first | refine blk_drewN ?_ _ | refine blk_drew ?_ | refine blk_alloc ?_ _)); refine blk_put (cs := #[.int .i64 0, .int .i64 0, .int .i64 0, .slice none 0 0]) ?_ 2 _ rfl; (with_reducible repeat (first | refine blk_drewN ?_ _ | refine blk_drew ?_ | refine blk_alloc ?_ _)); refine blk_put (cs := #[.int .i64 0, .int .i64 0, .int .i64 0, .slice none 0 0]) ?_ 1 _ rfl; (with_reducible repeat (first | refine blk_drewN ?_ _ | refine blk_drew ?_ | refine blk_alloc ?_ _)); refine blk_put (cs := #[.int .i64 0, .int .i64 0, .int .i64 0, .slice none 0 0]) ?_ 0 _ rfl; (with_reducible repeat (first | refine blk_drewN ?_ _ | refine blk_drew ?_ | refine blk_alloc ?_ _)); exact BK1001.out) Try.underlying67 rfl (by kernel_rfl)) rfl ?_
  exact ⟨_, rf_, by first | exact Kd.S_nil _ _ _ _ _ | exact Kd.N_nil _ _ _ _ _ | exact Kd.V_nil _ _ _ _ _ | exact Kd.Q_nil _ _ _ _ _ | exact Kd.R_nil _ _ _ _ _, bg_⟩

/-! ### laws_eqSeries: function 132 -/
def laws_eqSeries.f (k : Nat) (l0_0 : List (S104)) (l0_1 : List (S37)) (l1_0 : List (S104)) (l1_1 : List (S37)) : Option (Bool) := (laws_eqLabelS.f k l0_0 l1_0).bind fun t1003 => (if t1003 = true then ((laws_eqSampleS.f k l0_1 l1_1).bind fun t1004 => (if t1004 = true then (some true) else (some false))) else (some false))
theorem laws_eqSeries.mono : ∀ a0 a1 a2 a3 k, LeO (laws_eqSeries.f k a0 a1 a2 a3) (laws_eqSeries.f (k + 1) a0 a1 a2 a3) := by
 intro a0 a1 a2 a3 k
 unfold laws_eqSeries.f
 repeat' first
   | with_reducible first | exact laws_eqLabelS.mono _ _ _ | exact laws_eqSampleS.mono _ _ _ | exact LeO.refl _ | exact LeO.none _ | refine LeO.ite ?_ ?_ | refine LeO.bind ?_ (fun _ => ?_)
   | exact laws_eqLabelS.mono _ _ _
   | exact laws_eqSampleS.mono _ _ _
   | exact LeO.none _
   | refine LeO.ite ?_ ?_
   | refine LeO.bind ?_ (fun _ => ?_)
set_option maxHeartbeats 8000000 in
set_option maxRecDepth 100000 in
theorem laws_eqSeries.calls (k : Nat) (A0_0 : Option Addr) (c0_0 : Nat) (l0_0 : List (S104)) (A0_1 : Option Addr) (c0_1 : Nat) (l0_1 : List (S37)) (A1_0 : Option Addr) (c1_0 : Nat) (l1_0 : List (S104)) (A1_1 : Option Addr) (c1_1 : Nat) (l1_1 : List (S37)) (r : Bool) (w : World) (hr0_0 : Kd.C k104 w A0_0 l0_0.length l0_0) (hc0_0 : l0_0.length ≤ c0_0) (hr0_1 : Kd.C k37 w A0_1 l0_1.length l0_1) (hc0_1 : l0_1.length ≤ c0_1) (hr1_0 : Kd.C k104 w A1_0 l1_0.length l1_0) (hc1_0 : l1_0.length ≤ c1_0) (hr1_1 : Kd.C k37 w A1_1 l1_1.length l1_1) (hc1_1 : l1_1.length ≤ c1_1) (h : laws_eqSeries.f k l0_0 l0_1 l1_0 l1_1 = some r) :
  Calls Try.prog 132 #[.agg #[.slice A0_0 l0_0.length c0_0, .slice A0_1 l0_1.length c0_1], .agg #[.slice A1_0 l1_0.length c1_0, .slice A1_1 l1_1.length c1_1]] w fun e w' => e = .returned (.bool r) ∧ Below w.heap.size w w' := by
 have hu142 := Try.underlying142
 have HR0_0 := am_ hr0_0
 have HC0_0 := am_ hc0_0
 clear hr0_0 hc0_0
 have HR0_1 := am_ hr0_1
 have HC0_1 := am_ hc0_1
 clear hr0_1 hc0_1
 have HR1_0 := am_ hr1_0
 have HC1_0 := am_ hc1_0
 clear hr1_0 hc1_0
 have HR1_1 := am_ hr1_1
 have HC1_1 := am_ hc1_1
 clear hr1_1 hc1_1
 have HB := am_ (Below.refl w.heap.size w)
 have H : ((laws_eqLabelS.f k l0_0 l1_0).bind fun t1003 => (if t1003 = true then ((laws_eqSampleS.f k l0_1 l1_1).bind fun t1004 => (if t1004 = true then (some true) else (some false))) else (some false))) = some r := h
 clear h
 replace H := Option.bind_eq_some_iff.mp H
 obtain ⟨t1003, A30, H⟩ := H
 replace H : (if t1003 = true then ((laws_eqSampleS.f k l0_1 l1_1).bind fun t1004 => (if t1004 = true then (some true) else (some false))) else (some false)) = some r := H
 have A3 := am_ A30
 clear A30
 by_cases c4 : t1003 = true
 ·subst c4
  have H1 : ((laws_eqSampleS.f k l0_1 l1_1).bind fun t1004 => (if t1004 = true then (some true) else (some false))) = some r := by rw [if_pos rfl] at H; exact H
  clear H
  have H := H1
  clear H1
  replace H := Option.bind_eq_some_iff.mp H
  obtain ⟨t1004, A50, H⟩ := H
  replace H : (if t1004 = true then (some true) else (some false)) = some r := H
  have A5 := am_ A50
  clear A50
  by_cases c6 : t1004 = true
  ·subst c6
   have H1 : (some true) = some r := by rw [if_pos rfl] at H; exact H
   clear H
   have H := H1
   clear H1
   obtain rfl := Option.some.inj H
   go_enter Try.func132, Try.ntmps132
   go_wp2_with (first | ((with_reducible refine gate_dst (N := 2) rfl ?_); refine box_event ?hg (N := 2) ?hd (cs := #[.slice A0_0 l0_0.length c0_0, .slice A0_1 l0_1.length c0_1]) (t := 142) ?hr ?_; (case hd => rfl); (case hg => rfl); (case hr => first | (go_simp; done) | (go_simp; rfl)); intro gb1001 hg w7 hbox hb; have n0_ := am_ (below_step bl_ hb); have n1_ := am_ (hbox); have n2_ := am_ (gs_ hg : w.heap.size ≤ gb1001); have n3_ := n2_; clear HB; have HB := n0_; have BK1001 := n1_; have GW1001 := n2_; have GE1001 := n3_; clear n0_ n1_ n2_ n3_; clear hb hbox hg) | ((with_reducible refine gate_dst (N := 3) rfl ?_); refine box_event ?hg (N := 3) ?hd (cs := #[.slice A1_0 l1_0.length c1_0, .slice A1_1 l1_1.length c1_1]) (t := 142) ?hr ?_; (case hd => rfl); (case hg => rfl); (case hr => first | (go_simp; done) | (go_simp; rfl)); intro gb1002 hg w8 hbox hb; have n0_ := am_ (blk_below (g := gb1001) (vk_ BK1001) hb); have n1_ := am_ (below_step bg_ hb); have n2_ := am_ (hbox); have n3_ := am_ (gg_ hg : w.heap.size ≤ gb1002); have n4_ := n3_; have n5_ := am_ ((by rw [hg]; exact Nat.ne_of_lt (blk_lt (g := gb1001) (o := .cells #[.slice A0_0 l0_0.length c0_0, .slice A0_1 l0_1.length c0_1] 142 (0, 0)) (vk_ BK1001)) : gb1001 ≠ gb1002)); have n6_ := am_ ((by rw [hg]; exact Nat.ne_of_gt (blk_lt (g := gb1001) (o := .cells #[.slice A0_0 l0_0.length c0_0, .slice A0_1 l0_1.length c0_1] 142 (0, 0)) (vk_ BK1001)) : gb1002 ≠ gb1001)); clear BK1001; clear HB; have BK1001 := n0_; have HB := n1_; have BK1002 := n2_; have GW1002 := n3_; have GE1002 := n4_; have NB1001_1002 := n5_; have NB1002_1001 := n6_; clear n0_ n1_ n2_ n3_ n4_ n5_ n6_; clear hb hbox hg; have hnb9 := NB1001_1002.out; have hnc9 := NB1002_1001.out; have hcz10_0 := bc2_0 BK1001; have hcz10_1 := bc2_1 BK1001; have hfz10_0 := bf_ BK1001 0; have hfz10_1 := bf_ BK1001 1; have hcz11_0 := bc2_0 BK1002; have hcz11_1 := bc2_1 BK1002; have hfz11_0 := bf_ BK1002 0; have hfz11_1 := bf_ BK1002 1) | ((with_reducible refine gate_callee (f := 45) rfl ?_); refine goesL_ (some 9) rfl rfl Try.func45 (by kernel_rfl) rfl #[.slice A0_0 l0_0.length c0_0, .slice A1_0 l1_0.length c1_0] rfl ag_ ?_; (with_reducible refine (laws_eqLabelS.calls k _ _ l0_0 _ _ l1_0 true _ ?side1 ?side2 ?side3 ?side4 A3.out).mono ?_); (case side1 => exact cc_ (Kd.C_below HR0_0.out HB.out)); (case side2 => exact HC0_0.out); (case side3 => exact cc_ (Kd.C_below HR1_0.out HB.out)); (case side4 => exact HC1_0.out); rintro e w12 ⟨rfl, hb⟩; refine ⟨_, rfl, ?_⟩; have n0_ := am_ (blk_below (g := gb1001) (vk_ BK1001) hb); have n1_ := am_ (blk_below (g := gb1002) (vk_ BK1002) hb); have n2_ := am_ (below_step bg_ hb); clear BK1001; clear BK1002; clear HB; have BK1001 := n0_; have BK1002 := n1_; have HB := n2_; clear n0_ n1_ n2_; (try clear hb); (try clear hb2); (try clear hk); (try clear hi); have hcz13_0 := bc2_0 BK1001; have hcz13_1 := bc2_1 BK1001; have hfz13_0 := bf_ BK1001 0; have hfz13_1 := bf_ BK1001 1; have hcz14_0 := bc2_0 BK1002; have hcz14_1 := bc2_1 BK1002; have hfz14_0 := bf_ BK1002 0; have hfz14_1 := bf_ BK1002 1) | ((with_reducible refine gate_callee (f := 29) rfl ?_); refine goesL_ (some 15) rfl rfl Try.func29 (by kernel_rfl) rfl #[.slice A0_1 l0_1.length c0_1, .slice A1_1 l1_1.length c1_1] rfl ag_ ?_; (with_reducible refine (laws_eqSampleS.calls k _ _ l0_1 _ _ l1_1 true _ ?side1 ?side2 ?side3 ?side4 A5.out).mono ?_); (case side1 => exact cc_ (Kd.C_below HR0_1.out HB.out)); (case side2 => exact HC0_1.out); (case side3 => exact cc_ (Kd.C_below HR1_1.out HB.out)); (case side4 => exact HC1_1.out); rintro e w15 ⟨rfl, hb⟩; refine ⟨_, rfl, ?_⟩; have n0_ := am_ (blk_below (g := gb1001) (vk_ BK1001) hb); have n1_ := am_ (blk_below (g := gb1002) (vk_ BK1002) hb); have n2_ := am_ (below_step bg_ hb); clear BK1001; clear BK1002; clear HB; have BK1001 := n0_; have BK1002 := n1_; have HB := n2_; clear n0_ n1_ n2_; (try clear hb); (try clear hb2); (try clear hk); (try clear hi)))
   go_ret
   exact ⟨rf_, bg_⟩
  ·replace c6 := Bool.eq_false_iff.mpr c6
   subst c6
   have H1 : (some false) = some r := by rw [if_neg (show ¬ (false = true) by decide)] at H; exact H
   clear H
   have H := H1
   clear H1
   obtain rfl := Option.some.inj H
   go_enter Try.func132, Try.ntmps132
   go_wp2_with (first | ((with_reducible refine gate_dst (N := 2) rfl ?_); refine box_event ?hg (N := 2) ?hd (cs := #[.slice A0_0 l0_0.length c0_0, .slice A0_1 l0_1.length c0_1]) (t := 142) ?hr ?_; (case hd => rfl); (case hg => rfl); (case hr => first | (go_simp; done) | (go_simp; rfl)); intro gb1001 hg w16 hbox hb; have n0_ := am_ (below_step bl_ hb); have n1_ := am_ (hbox); have n2_ := am_ (gs_ hg : w.heap.size ≤ gb1001); have n3_ := n2_; clear HB; have HB := n0_; have BK1001 := n1_; have GW1001 := n2_; have GE1001 := n3_; clear n0_ n1_ n2_ n3_; clear hb hbox hg) | ((with_reducible refine gate_dst (N := 3) rfl ?_); refine box_event ?hg (N := 3) ?hd (cs := #[.slice A1_0 l1_0.length c1_0, .slice A1_1 l1_1.length c1_1]) (t := 142) ?hr ?_; (case hd => rfl); (case hg => rfl); (case hr => first | (go_simp; done) | (go_simp; rfl)); intro gb1002 hg w17 hbox hb; have n0_ := am_ (blk_below (g := gb1001) (vk_ BK1001) hb); have n1_ := am_ (below_step bg_ hb); have n2_ := am_ (hbox); have n3_ := am_ (gg_ hg : w.heap.size ≤ gb1002); have n4_ := n3_; have n5_ := am_ ((by rw [hg]; exact Nat.ne_of_lt (blk_lt (g := gb1001) (o := .cells #[.slice A0_0 l0_0.length c0_0, .slice A0_1 l0_1.length c0_1] 142 (0, 0)) (vk_ BK1001)) : gb1001 ≠ gb1002)); have n6_ := am_ ((by rw [hg]; exact Nat.ne_of_gt (blk_lt (g := gb1001) (o := .cells #[.slice A0_0 l0_0.length c0_0, .slice A0_1 l0_1.length c0_1] 142 (0, 0)) (vk_ BK1001)) : gb1002 ≠ gb1001)); clear BK1001; clear HB; have BK1001 := n0_; have HB := n1_; have BK1002 := n2_; have GW1002 := n3_; have GE1002 := n4_; have NB1001_1002 := n5_; have NB1002_1001 := n6_; clear n0_ n1_ n2_ n3_ n4_ n5_ n6_; clear hb hbox hg; have hnb18 := NB1001_1002.out; have hnc18 := NB1002_1001.out; have hcz19_0 := bc2_0 BK1001; have hcz19_1 := bc2_1 BK1001; have hfz19_0 := bf_ BK1001 0; have hfz19_1 := bf_ BK1001 1; have hcz20_0 := bc2_0 BK1002; have hcz20_1 := bc2_1 BK1002; have hfz20_0 := bf_ BK1002 0; have hfz20_1 := bf_ BK1002 1) | ((with_reducible refine gate_callee (f := 45) rfl ?_); refine goesL_ (some 9) rfl rfl Try.func45 (by kernel_rfl) rfl #[.slice A0_0 l0_0.length c0_0, .slice A1_0 l1_0.length c1_0] rfl ag_ ?_; (with_reducible refine (laws_eqLabelS.calls k _ _ l0_0 _ _ l1_0 true _ ?side1 ?side2 ?side3 ?side4 A3.out).mono ?_); (case side1 => exact cc_ (Kd.C_below HR0_0.out HB.out)); (case side2 => exact HC0_0.out); (case side3 => exact cc_ (Kd.C_below HR1_0.out HB.out)); (case side4 => exact HC1_0.out); rintro e w21 ⟨rfl, hb⟩; refine ⟨_, rfl, ?_⟩; have n0_ := am_ (blk_below (g := gb1001) (vk_ BK1001) hb); have n1_ := am_ (blk_below (g := gb1002) (vk_ BK1002) hb); have n2_ := am_ (below_step bg_ hb); clear BK1001; clear BK1002; clear HB; have BK1001 := n0_; have BK1002 := n1_; have HB := n2_; clear n0_ n1_ n2_; (try clear hb); (try clear hb2); (try clear hk); (try clear hi); have hcz22_0 := bc2_0 BK1001; have hcz22_1 := bc2_1 BK1001; have hfz22_0 := bf_ BK1001 0; have hfz22_1 := bf_ BK1001 1; have hcz23_0 := bc2_0 BK1002; have hcz23_1 := bc2_1 BK1002; have hfz23_0 := bf_ BK1002 0; have hfz23_1 := bf_ BK1002 1) | ((with_reducible refine gate_callee (f := 29) rfl ?_); refine goesL_ (some 15) rfl rfl Try.func29 (by kernel_rfl) rfl #[.slice A0_1 l0_1.length c0_1, .slice A1_1 l1_1.length c1_1] rfl ag_ ?_; (with_reducible refine (laws_eqSampleS.calls k _ _ l0_1 _ _ l1_1 false _ ?side1 ?side2 ?side3 ?side4 A5.out).mono ?_); (case side1 => exact cc_ (Kd.C_below HR0_1.out HB.out)); (case side2 => exact HC0_1.out); (case side3 => exact cc_ (Kd.C_below HR1_1.out HB.out)); (case side4 => exact HC1_1.out); rintro e w24 ⟨rfl, hb⟩; refine ⟨_, rfl, ?_⟩; have n0_ := am_ (blk_below (g := gb1001) (vk_ BK1001) hb); have n1_ := am_ (blk_below (g := gb1002) (vk_ BK1002) hb); have n2_ := am_ (below_step bg_ hb); clear BK1001; clear BK1002; clear HB; have BK1001 := n0_; have BK1002 := n1_; have HB := n2_; clear n0_ n1_ n2_; (try clear hb); (try clear hb2); (try clear hk); (try clear hi)))
   go_ret
   exact ⟨rf_, bg_⟩
 ·replace c4 := Bool.eq_false_iff.mpr c4
  subst c4
  have H1 : (some false) = some r := by rw [if_neg (show ¬ (false = true) by decide)] at H; exact H
  clear H
  have H := H1
  clear H1
  obtain rfl := Option.some.inj H
  go_enter Try.func132, Try.ntmps132
  go_wp2_with (first | ((with_reducible refine gate_dst (N := 2) rfl ?_); refine box_event ?hg (N := 2) ?hd (cs := #[.slice A0_0 l0_0.length c0_0, .slice A0_1 l0_1.length c0_1]) (t := 142) ?hr ?_; (case hd => rfl); (case hg => rfl); (case hr => first | (go_simp; done) | (go_simp; rfl)); intro gb1001 hg w25 hbox hb; have n0_ := am_ (below_step bl_ hb); have n1_ := am_ (hbox); have n2_ := am_ (gs_ hg : w.heap.size ≤ gb1001); have n3_ := n2_; clear HB; have HB := n0_; have BK1001 := n1_; have GW1001 := n2_; have GE1001 := n3_; clear n0_ n1_ n2_ n3_; clear hb hbox hg) | ((with_reducible refine gate_dst (N := 3) rfl ?_); refine box_event ?hg (N := 3) ?hd (cs := #[.slice A1_0 l1_0.length c1_0, .slice A1_1 l1_1.length c1_1]) (t := 142) ?hr ?_; (case hd => rfl); (case hg => rfl); (case hr => first | (go_simp; done) | (go_simp; rfl)); intro gb1002 hg w26 hbox hb; have n0_ := am_ (blk_below (g := gb1001) (vk_ BK1001) hb); have n1_ := am_ (below_step bg_ hb); have n2_ := am_ (hbox); have n3_ := am_ (gg_ hg : w.heap.size ≤ gb1002); have n4_ := n3_; have n5_ := am_ ((by rw [hg]; exact Nat.ne_of_lt (blk_lt (g := gb1001) (o := .cells #[.slice A0_0 l0_0.length c0_0, .slice A0_1 l0_1.length c0_1] 142 (0, 0)) (vk_ BK1001)) : gb1001 ≠ gb1002)); have n6_ := am_ ((by rw [hg]; exact Nat.ne_of_gt (blk_lt (g := gb1001) (o := .cells #[.slice A0_0 l0_0.length c0_0, .slice A0_1 l0_1.length c0_1] 142 (0, 0)) (vk_ BK1001)) : gb1002 ≠ gb1001)); clear BK1001; clear HB; have BK1001 := n0_; have HB := n1_; have BK1002 := n2_; have GW1002 := n3_; have GE1002 := n4_; have NB1001_1002 := n5_; have NB1002_1001 := n6_; clear n0_ n1_ n2_ n3_ n4_ n5_ n6_; clear hb hbox hg; have hnb27 := NB1001_1002.out; have hnc27 := NB1002_1001.out; have hcz28_0 := bc2_0 BK1001; have hcz28_1 := bc2_1 BK1001; have hfz28_0 := bf_ BK1001 0; have hfz28_1 := bf_ BK1001 1; have hcz29_0 := bc2_0 BK1002; have hcz29_1 := bc2_1 BK1002; have hfz29_0 := bf_ BK1002 0; have hfz29_1 := bf_ BK1002 1) | ((with_reducible refine gate_callee (f := 45) rfl ?_); refine goesL_ (some 9) rfl rfl Try.func45 (by kernel_rfl) rfl #[.slice A0_0 l0_0.length c0_0, .slice A1_0 l1_0.length c1_0] rfl ag_ ?_; (with_reducible refine (laws_eqLabelS.calls k _ _ l0_0 _ _ l1_0 false _ ?side1 ?side2 ?side3 ?side4 A3.out).mono ?_); (case side1 => exact cc_ (Kd.C_below HR0_0.out HB.out)); (case side2 => exact HC0_0.out); (case side3 => exact cc_ (Kd.C_below HR1_0.out HB.out)); (case side4 => exact HC1_0.out); rintro e w30 ⟨rfl, hb⟩; refine ⟨_, rfl, ?_⟩; have n0_ := am_ (blk_below (g := gb1001) (vk_ BK1001) hb); have n1_ := am_ (blk_below (g := gb1002) (vk_ BK1002) hb); have n2_ := am_ (below_step bg_ hb); clear BK1001; clear BK1002; clear HB; have BK1001 := n0_; have BK1002 := n1_; have HB := n2_; clear n0_ n1_ n2_; (try clear hb); (try clear hb2); (try clear hk); (try clear hi)))
  go_ret
  exact ⟨rf_, bg_⟩

/-! ### laws_eqSeriesS: function 103 -/
def laws_eqSeriesS.l0 : Nat → List (S142) → List (S142) → Int → Option (Bool)
 | 0, _, _, _ => none
 | k + 1, x0, x1, x5 => if x5 < (x0.length : Int) then (if 0 ≤ x5 then (if x5 < (x1.length : Int) then ((laws_eqSeries.f k ((rd_T142 x0 x5).f0) ((rd_T142 x0 x5).f1) ((rd_T142 x1 x5).f0) ((rd_T142 x1 x5).f1)).bind fun t1003 => (if t1003 = true then (laws_eqSeriesS.l0 k x0 x1 (wrap64 (x5 + 1))) else (some false))) else (none)) else (none)) else (some true)
def laws_eqSeriesS.f (k : Nat) (l0 : List (S142)) (l1 : List (S142)) : Option (Bool) := if (l0.length : Int) = (l1.length : Int) then (laws_eqSeriesS.l0 k l0 l1 0) else (some false)
theorem laws_eqSeriesS.mono_l : ∀ k, (∀ y0 y1 y2, LeO (laws_eqSeriesS.l0 k y0 y1 y2) (laws_eqSeriesS.l0 (k + 1) y0 y1 y2))
 | 0 => fun _ _ _ r h => by simp [laws_eqSeriesS.l0] at h
 | k + 1 => by
  have ih0 := laws_eqSeriesS.mono_l k
  ·intro y0 y1 y2
   unfold laws_eqSeriesS.l0
   repeat' first
   | with_reducible first | exact ih0 _ _ _ | exact laws_eqSeries.mono _ _ _ _ _ | exact LeO.refl _ | exact LeO.none _ | refine LeO.ite ?_ ?_ | refine LeO.bind ?_ (fun _ => ?_)
   | exact ih0 _ _ _
   | exact laws_eqSeries.mono _ _ _ _ _
   | exact LeO.none _
   | refine LeO.ite ?_ ?_
   | refine LeO.bind ?_ (fun _ => ?_)
theorem laws_eqSeriesS.mono : ∀ a0 a1 k, LeO (laws_eqSeriesS.f k a0 a1) (laws_eqSeriesS.f (k + 1) a0 a1) := by
 intro a0 a1 k
 have ih0 := laws_eqSeriesS.mono_l k
 unfold laws_eqSeriesS.f
 repeat' first
   | with_reducible first | exact ih0 _ _ _ | exact laws_eqSeries.mono _ _ _ _ _ | exact LeO.refl _ | exact LeO.none _ | refine LeO.ite ?_ ?_ | refine LeO.bind ?_ (fun _ => ?_)
   | exact ih0 _ _ _
   | exact laws_eqSeries.mono _ _ _ _ _
   | exact LeO.none _
   | refine LeO.ite ?_ ?_
   | refine LeO.bind ?_ (fun _ => ?_)
def laws_eqSeriesS.T6 : Bool × List (List Nat × List Nat) := (true, [([], []), ([], []), ([0, 1], [0, 1]), ([2], [2]), ([], []), ([], []), ([4, 5], [4, 5]), ([6], [6]), ([3, 7], [3, 7]), ([8], [8])])
def laws_eqSeriesS.B6 : List Nat := [0, 0, 3, 7, 0, 0, 48, 112, 255, 511]
theorem laws_eqSeriesS.tab6 : rtab .any (opsOf Try.f103 6) = laws_eqSeriesS.T6 := by kernel_rfl
theorem laws_eqSeriesS.bits6 : waitsOk laws_eqSeriesS.T6.2 laws_eqSeriesS.B6 = true := by kernel_rfl
set_option maxHeartbeats 8000000 in
set_option maxRecDepth 100000 in
theorem laws_eqSeriesS.calls (k : Nat) (A0 : Option Addr) (c0 : Nat) (l0 : List (S142)) (A1 : Option Addr) (c1 : Nat) (l1 : List (S142)) (r : Bool) (w : World) (hr0 : Kd.C k142 w A0 l0.length l0) (hc0 : l0.length ≤ c0) (hr1 : Kd.C k142 w A1 l1.length l1) (hc1 : l1.length ≤ c1) (h : laws_eqSeriesS.f k l0 l1 = some r) :
  Calls Try.prog 103 #[.slice A0 l0.length c0, .slice A1 l1.length c1] w fun e w' => e = .returned (.bool r) ∧ Below w.heap.size w w' := by
 have hu142 := Try.underlying142
 have HR0 := am_ hr0
 have HC0 := am_ hc0
 clear hr0 hc0
 have HR1 := am_ hr1
 have HC1 := am_ hc1
 clear hr1 hc1
 have HB := am_ (Below.refl w.heap.size w)
 have H : (if (l0.length : Int) = (l1.length : Int) then (laws_eqSeriesS.l0 k l0 l1 0) else (some false)) = some r := h
 clear h
 by_cases c3 : (l0.length : Int) = (l1.length : Int)
 ·rw [if_pos c3] at H
  have c3b0 : ((l0.length : Int) == (l1.length : Int)) = true := beq_iff_eq.mpr c3
  have c3b1 : ((l0.length : Int) != (l1.length : Int)) = false := bne_eq_false_iff_eq.mpr c3
  have c3b2 : (l0.length == l1.length) = true := by first | simpa using c3 | (simp at c3 ⊢; omega)
  clear c3
  have H' := am_ H
  clear H
  go_enter Try.func103, Try.ntmps103
  go_wp2
  go_loopg [5] k (fun kq v5 w' => ∃ (x5_1 : Int), v5 = .int .i64 x5_1 ∧ Aside0 (laws_eqSeriesS.l0 kq l0 l1 x5_1 = some r) ∧ Aside0 (kq ≤ k) ∧ Aside0 (Below w.heap.size w w'))
  case atStart => exact ⟨(0), rs_, H', ⟨Nat.le_refl _⟩, ⟨bl_⟩⟩
  case round =>
   clear H'
   try clear c1
   try clear p2
   try clear c3
   try clear c3b0
   try clear c3b1
   try clear c3b2
   obtain ⟨x5_1, rfl, HA, HK1, HB⟩ := hrel
   cases gk with
   | zero => exact absurd HA.out (by simp [laws_eqSeriesS.l0])
   | succ k1 =>
    have H := HA.out
    clear HA
    simp only [laws_eqSeriesS.l0] at H
    by_cases c4 : x5_1 < (l0.length : Int)
    ·rw [if_pos c4] at H
     have c4b0 : decide (x5_1 < (l0.length : Int)) = true := decide_eq_true c4
     clear c4
     by_cases c5 : 0 ≤ x5_1
     ·rw [if_pos c5] at H
      have c5b0 : decide (0 ≤ x5_1) = true := decide_eq_true c5
      clear c5
      by_cases c6 : x5_1 < (l1.length : Int)
      ·rw [if_pos c6] at H
       have c6b0 : decide (x5_1 < (l1.length : Int)) = true := decide_eq_true c6
       clear c6
       replace H := Option.bind_eq_some_iff.mp H
       obtain ⟨t1003, A70, H⟩ := H
       replace H : (if t1003 = true then (laws_eqSeriesS.l0 k1 l0 l1 (wrap64 (x5_1 + 1))) else (some false)) = some r := H
       have A7 := am_ A70
       clear A70
       by_cases c8 : t1003 = true
       ·subst c8
        have H1 : (laws_eqSeriesS.l0 k1 l0 l1 (wrap64 (x5_1 + 1))) = some r := by rw [if_pos rfl] at H; exact H
        clear H
        have H := H1
        clear H1
        have H' := am_ H
        clear H
        try go_wp2
        have n0_ := am_ (below_drew1 HB.out)
        clear HB
        have HB := n0_
        clear n0_
        have p1001 : 0 ≤ (x5_1 : Int) := od_
        have q1001 : x5_1 < (l0.length : Int) := od_
        obtain ⟨ad1001, A1001_0, c1001_0, A1001_1, c1001_1, e1001, hx1001_0, hx1001_1, hl1001_0, hi1001_0, hl1001_1, hi1001_1⟩ := at_T142 HR0.out x5_1 p1001 q1001
        have hw1001_1 := hx1001_1
        have hw1001_0 := hx1001_0
        cases e1001
        replace hx1001_0 := kp_ HB hx1001_0
        replace hx1001_1 := kp_ HB hx1001_1
        have HR1001_0 := am_ hi1001_0
        have HC1001_0 := am_ hl1001_0
        clear hi1001_0 hl1001_0
        have HR1001_1 := am_ hi1001_1
        have HC1001_1 := am_ hl1001_1
        clear hi1001_1 hl1001_1
        replace p1001 := eq_true p1001
        replace q1001 := eq_true q1001
        have p1002 : 0 ≤ (x5_1 : Int) := od_
        have q1002 : x5_1 < (l1.length : Int) := od_
        obtain ⟨ad1002, A1002_0, c1002_0, A1002_1, c1002_1, e1002, hx1002_0, hx1002_1, hl1002_0, hi1002_0, hl1002_1, hi1002_1⟩ := at_T142 HR1.out x5_1 p1002 q1002
        have hw1002_1 := hx1002_1
        have hw1002_0 := hx1002_0
        cases e1002
        replace hx1002_0 := kp_ HB hx1002_0
        replace hx1002_1 := kp_ HB hx1002_1
        have HR1002_0 := am_ hi1002_0
        have HC1002_0 := am_ hl1002_0
        clear hi1002_0 hl1002_0
        have HR1002_1 := am_ hi1002_1
        have HC1002_1 := am_ hl1002_1
        clear hi1002_1 hl1002_1
        replace p1002 := eq_true p1002
        replace q1002 := eq_true q1002
        refine start_ (n := 10) (S := fun w' => w'.cell? (ad1001.add ((x5_1).toNat * 2)) = some (.slice A1001_0 ((rd_T142 l0 x5_1).f0).length c1001_0) ∧ w'.cell? ⟨(ad1001.add ((x5_1).toNat * 2)).block, (ad1001.add ((x5_1).toNat * 2)).off + 1, none⟩ = some (.slice A1001_1 ((rd_T142 l0 x5_1).f1).length c1001_1) ∧ w'.cell? (ad1002.add ((x5_1).toNat * 2)) = some (.slice A1002_0 ((rd_T142 l1 x5_1).f0).length c1002_0) ∧ w'.cell? ⟨(ad1002.add ((x5_1).toNat * 2)).block, (ad1002.add ((x5_1).toNat * 2)).off + 1, none⟩ = some (.slice A1002_1 ((rd_T142 l1 x5_1).f1).length c1002_1)) (ds := []) (bz 10 0) (by kernel_rfl) rfl rfl ⟨(kp_ HB hw1001_0 :), (kp_ HB hw1001_1 :), (kp_ HB hw1002_0 :), (kp_ HB hw1002_1 :)⟩ (fun hHeld => ?_); refine with_tabW laws_eqSeriesS.tab6 laws_eqSeriesS.bits6 (fun HT_ HW_ => ?_)
        generalize wr.drew = w9 at HB HR1001_0 HR1001_1 HR1002_0 HR1002_1 hx1001_0 hx1001_1 hx1002_0 hx1002_1 hHeld ⊢
        refine pz_ 0 17 1 ?_
        refine pz_ 1 18 3 ?_
        refine pz_ 2 19 7 ?_
        refine pz_ 4 21 23 ?_
        refine pz_ 5 22 55 ?_
        refine pz_ 6 23 119 ?_
        refine tz_ 3 20 127 ?_
        refine tz_ 7 24 255 ?_
        refine one_ (i := 8) (N := some 25) (bz 10 511) rfl rfl (one_of HT_.out (by kernel_rfl)) (by decide) (fun K hK => ?_)
        refine goes_ Try.func132 (by kernel_rfl) rfl #[.agg #[.slice A1001_0 ((rd_T142 l0 x5_1).f0).length c1001_0, .slice A1001_1 ((rd_T142 l0 x5_1).f1).length c1001_1], .agg #[.slice A1002_0 ((rd_T142 l1 x5_1).f0).length c1002_0, .slice A1002_1 ((rd_T142 l1 x5_1).f1).length c1002_1]] (by rfl) rfl rfl ag_ ?_
        with_reducible refine (laws_eqSeries.calls k1 _ _ ((rd_T142 l0 x5_1).f0) _ _ ((rd_T142 l0 x5_1).f1) _ _ ((rd_T142 l1 x5_1).f0) _ _ ((rd_T142 l1 x5_1).f1) true _ ?side1 ?side2 ?side3 ?side4 ?side5 ?side6 ?side7 ?side8 A7.out).mono ?_
        (case side1 => exact cc_ (Kd.C_below HR1001_0.out HB.out))
        (case side2 => exact HC1001_0.out)
        (case side3 => exact cc_ (Kd.C_below HR1001_1.out HB.out))
        (case side4 => exact HC1001_1.out)
        (case side5 => exact cc_ (Kd.C_below HR1002_0.out HB.out))
        (case side6 => exact HC1002_0.out)
        (case side7 => exact cc_ (Kd.C_below HR1002_1.out HB.out))
        (case side8 => exact HC1002_1.out)
        rintro e w10 ⟨rfl, hb⟩
        refine ⟨_, rfl, ?_⟩
        have n0_ := am_ (below_step bl_ hb)
        clear HB
        have HB := n0_
        clear n0_
        (try clear hb)
        (try clear hb2)
        (try clear hk)
        (try clear hi)
        refine hK.out _ _ ⟨(kp_ HB hw1001_0 :), (kp_ HB hw1001_1 :), (kp_ HB hw1002_0 :), (kp_ HB hw1002_1 :)⟩ (fun hHeld => ?_)
        clear hK K
        refine norm_ (a' := ?_) ?_ ?_
        rotate_left
        ·show Act.put _ (some 25) _ = _
         simp only [Act.put, List.setIfInBounds_toArray, List.set_cons_zero, List.set_cons_succ, i64_w, i32_w]
         rfl
        refine pz_ 9 26 1023 ?_
        refine done_ (done_of HT_.out (by kernel_rfl)) ?_
        try go_wp2
        go_roundg k1
        case measure => have := HK1.out; omega
        case rel => exact ⟨(wrap64 (x5_1 + 1)), rs_, H', ⟨by have := HK1.out; omega⟩, ⟨bl_⟩⟩
       ·replace c8 := Bool.eq_false_iff.mpr c8
        subst c8
        have H1 : (some false) = some r := by rw [if_neg (show ¬ (false = true) by decide)] at H; exact H
        clear H
        have H := H1
        clear H1
        obtain rfl := Option.some.inj H
        try go_wp2
        have n0_ := am_ (below_drew1 HB.out)
        clear HB
        have HB := n0_
        clear n0_
        have p1001 : 0 ≤ (x5_1 : Int) := od_
        have q1001 : x5_1 < (l0.length : Int) := od_
        obtain ⟨ad1001, A1001_0, c1001_0, A1001_1, c1001_1, e1001, hx1001_0, hx1001_1, hl1001_0, hi1001_0, hl1001_1, hi1001_1⟩ := at_T142 HR0.out x5_1 p1001 q1001
        have hw1001_1 := hx1001_1
        have hw1001_0 := hx1001_0
        cases e1001
        replace hx1001_0 := kp_ HB hx1001_0
        replace hx1001_1 := kp_ HB hx1001_1
        have HR1001_0 := am_ hi1001_0
        have HC1001_0 := am_ hl1001_0
        clear hi1001_0 hl1001_0
        have HR1001_1 := am_ hi1001_1
        have HC1001_1 := am_ hl1001_1
        clear hi1001_1 hl1001_1
        replace p1001 := eq_true p1001
        replace q1001 := eq_true q1001
        have p1002 : 0 ≤ (x5_1 : Int) := od_
        have q1002 : x5_1 < (l1.length : Int) := od_
        obtain ⟨ad1002, A1002_0, c1002_0, A1002_1, c1002_1, e1002, hx1002_0, hx1002_1, hl1002_0, hi1002_0, hl1002_1, hi1002_1⟩ := at_T142 HR1.out x5_1 p1002 q1002
        have hw1002_1 := hx1002_1
        have hw1002_0 := hx1002_0
        cases e1002
        replace hx1002_0 := kp_ HB hx1002_0
        replace hx1002_1 := kp_ HB hx1002_1
        have HR1002_0 := am_ hi1002_0
        have HC1002_0 := am_ hl1002_0
        clear hi1002_0 hl1002_0
        have HR1002_1 := am_ hi1002_1
        have HC1002_1 := am_ hl1002_1
        clear hi1002_1 hl1002_1
        replace p1002 := eq_true p1002
        replace q1002 := eq_true q1002
        refine start_ (n := 10) (S := fun w' => w'.cell? (ad1001.add ((x5_1).toNat * 2)) = some (.slice A1001_0 ((rd_T142 l0 x5_1).f0).length c1001_0) ∧ w'.cell? ⟨(ad1001.add ((x5_1).toNat * 2)).block, (ad1001.add ((x5_1).toNat * 2)).off + 1, none⟩ = some (.slice A1001_1 ((rd_T142 l0 x5_1).f1).length c1001_1) ∧ w'.cell? (ad1002.add ((x5_1).toNat * 2)) = some (.slice A1002_0 ((rd_T142 l1 x5_1).f0).length c1002_0) ∧ w'.cell? ⟨(ad1002.add ((x5_1).toNat * 2)).block, (ad1002.add ((x5_1).toNat * 2)).off + 1, none⟩ = some (.slice A1002_1 ((rd_T142 l1 x5_1).f1).length c1002_1)) (ds := []) (bz 10 0) (by kernel_rfl) rfl rfl ⟨(kp_ HB hw1001_0 :), (kp_ HB hw1001_1 :), (kp_ HB hw1002_0 :), (kp_ HB hw1002_1 :)⟩ (fun hHeld => ?_); refine with_tabW laws_eqSeriesS.tab6 laws_eqSeriesS.bits6 (fun HT_ HW_ => ?_)
        generalize wr.drew = w11 at HB HR1001_0 HR1001_1 HR1002_0 HR1002_1 hx1001_0 hx1001_1 hx1002_0 hx1002_1 hHeld ⊢
        refine pz_ 0 17 1 ?_
        refine pz_ 1 18 3 ?_
        refine pz_ 2 19 7 ?_
        refine pz_ 4 21 23 ?_
        refine pz_ 5 22 55 ?_
        refine pz_ 6 23 119 ?_
        refine tz_ 3 20 127 ?_
        refine tz_ 7 24 255 ?_
        refine one_ (i := 8) (N := some 25) (bz 10 511) rfl rfl (one_of HT_.out (by kernel_rfl)) (by decide) (fun K hK => ?_)
        refine goes_ Try.func132 (by kernel_rfl) rfl #[.agg #[.slice A1001_0 ((rd_T142 l0 x5_1).f0).length c1001_0, .slice A1001_1 ((rd_T142 l0 x5_1).f1).length c1001_1], .agg #[.slice A1002_0 ((rd_T142 l1 x5_1).f0).length c1002_0, .slice A1002_1 ((rd_T142 l1 x5_1).f1).length c1002_1]] (by rfl) rfl rfl ag_ ?_
        with_reducible refine (laws_eqSeries.calls k1 _ _ ((rd_T142 l0 x5_1).f0) _ _ ((rd_T142 l0 x5_1).f1) _ _ ((rd_T142 l1 x5_1).f0) _ _ ((rd_T142 l1 x5_1).f1) false _ ?side1 ?side2 ?side3 ?side4 ?side5 ?side6 ?side7 ?side8 A7.out).mono ?_
        (case side1 => exact cc_ (Kd.C_below HR1001_0.out HB.out))
        (case side2 => exact HC1001_0.out)
        (case side3 => exact cc_ (Kd.C_below HR1001_1.out HB.out))
        (case side4 => exact HC1001_1.out)
        (case side5 => exact cc_ (Kd.C_below HR1002_0.out HB.out))
        (case side6 => exact HC1002_0.out)
        (case side7 => exact cc_ (Kd.C_below HR1002_1.out HB.out))
        (case side8 => exact HC1002_1.out)
        rintro e w12 ⟨rfl, hb⟩
        refine ⟨_, rfl, ?_⟩
        have n0_ := am_ (below_step bl_ hb)
        clear HB
        have HB := n0_
        clear n0_
        (try clear hb)
        (try clear hb2)
        (try clear hk)
        (try clear hi)
        refine hK.out _ _ ⟨(kp_ HB hw1001_0 :), (kp_ HB hw1001_1 :), (kp_ HB hw1002_0 :), (kp_ HB hw1002_1 :)⟩ (fun hHeld => ?_)
        clear hK K
        refine norm_ (a' := ?_) ?_ ?_
        rotate_left
        ·show Act.put _ (some 25) _ = _
         simp only [Act.put, List.setIfInBounds_toArray, List.set_cons_zero, List.set_cons_succ, i64_w, i32_w]
         rfl
        refine pz_ 9 26 1023 ?_
        refine done_ (done_of HT_.out (by kernel_rfl)) ?_
        try go_wp2
        go_ret
        exact ⟨rf_, bl_⟩
      ·rw [if_neg c6] at H
       exact absurd H (by simp)
     ·rw [if_neg c5] at H
      exact absurd H (by simp)
    ·rw [if_neg c4] at H
     have c4b0 : decide (x5_1 < (l0.length : Int)) = false := decide_eq_false c4
     clear c4
     obtain rfl := Option.some.inj H
     go_wp2
     go_ret
     exact ⟨rf_, bl_⟩
 ·rw [if_neg c3] at H
  have c3b0 : ((l0.length : Int) == (l1.length : Int)) = false := beq_eq_false_iff_ne.mpr c3
  have c3b1 : ((l0.length : Int) != (l1.length : Int)) = true := bne_iff_ne.mpr c3
  have c3b2 : (l0.length == l1.length) = false := by first | simpa using c3 | (simp at c3 ⊢; omega)
  obtain rfl := Option.some.inj H
  go_enter Try.func103, Try.ntmps103
  go_wp2
  go_ret
  exact ⟨rf_, bl_⟩

/-! ### laws_eqHead: function 52 -/
def laws_eqHead.f (k : Nat) (a0_0 : Int) (a0_1 : Int) (a0_2 : Int) (l0_3 : List (S142)) (a1_0 : Int) (a1_1 : Int) (a1_2 : Int) (l1_3 : List (S142)) : Option (Bool) := if a0_0 = a1_0 then (if a0_1 = a1_1 then (if a0_2 = a1_2 then ((laws_eqSeriesS.f k l0_3 l1_3).bind fun t1003 => (if t1003 = true then (some true) else (some false))) else (some false)) else (some false)) else (some false)
theorem laws_eqHead.mono : ∀ a0 a1 a2 a3 a4 a5 a6 a7 k, LeO (laws_eqHead.f k a0 a1 a2 a3 a4 a5 a6 a7) (laws_eqHead.f (k + 1) a0 a1 a2 a3 a4 a5 a6 a7) := by
 intro a0 a1 a2 a3 a4 a5 a6 a7 k
 unfold laws_eqHead.f
 repeat' first
   | with_reducible first | exact laws_eqSeriesS.mono _ _ _ | exact LeO.refl _ | exact LeO.none _ | refine LeO.ite ?_ ?_ | refine LeO.bind ?_ (fun _ => ?_)
   | exact laws_eqSeriesS.mono _ _ _
   | exact LeO.none _
   | refine LeO.ite ?_ ?_
   | refine LeO.bind ?_ (fun _ => ?_)
set_option maxHeartbeats 8000000 in
set_option maxRecDepth 100000 in
theorem laws_eqHead.calls (k : Nat) (a0_0 : Int) (a0_1 : Int) (a0_2 : Int) (A0_3 : Option Addr) (c0_3 : Nat) (l0_3 : List (S142)) (a1_0 : Int) (a1_1 : Int) (a1_2 : Int) (A1_3 : Option Addr) (c1_3 : Nat) (l1_3 : List (S142)) (r : Bool) (w : World) (hr0_3 : Kd.C k142 w A0_3 l0_3.length l0_3) (hc0_3 : l0_3.length ≤ c0_3) (hr1_3 : Kd.C k142 w A1_3 l1_3.length l1_3) (hc1_3 : l1_3.length ≤ c1_3) (h : laws_eqHead.f k a0_0 a0_1 a0_2 l0_3 a1_0 a1_1 a1_2 l1_3 = some r) :
  Calls Try.prog 52 #[.agg #[.int .i64 a0_0, .int .i64 a0_1, .int .i64 a0_2, .slice A0_3 l0_3.length c0_3], .agg #[.int .i64 a1_0, .int .i64 a1_1, .int .i64 a1_2, .slice A1_3 l1_3.length c1_3]] w fun e w' => e = .returned (.bool r) ∧ Below w.heap.size w w' := by
 have hu67 := Try.underlying67
 have HR0_3 := am_ hr0_3
 have HC0_3 := am_ hc0_3
 clear hr0_3 hc0_3
 have HR1_3 := am_ hr1_3
 have HC1_3 := am_ hc1_3
 clear hr1_3 hc1_3
 have HB := am_ (Below.refl w.heap.size w)
 have H : (if a0_0 = a1_0 then (if a0_1 = a1_1 then (if a0_2 = a1_2 then ((laws_eqSeriesS.f k l0_3 l1_3).bind fun t1003 => (if t1003 = true then (some true) else (some false))) else (some false)) else (some false)) else (some false)) = some r := h
 clear h
 by_cases c3 : a0_0 = a1_0
 ·rw [if_pos c3] at H
  have c3b0 : (a0_0 == a1_0) = true := beq_iff_eq.mpr c3
  have c3b1 : (a0_0 != a1_0) = false := bne_eq_false_iff_eq.mpr c3
  clear c3
  by_cases c4 : a0_1 = a1_1
  ·rw [if_pos c4] at H
   have c4b0 : (a0_1 == a1_1) = true := beq_iff_eq.mpr c4
   have c4b1 : (a0_1 != a1_1) = false := bne_eq_false_iff_eq.mpr c4
   clear c4
   by_cases c5 : a0_2 = a1_2
   ·rw [if_pos c5] at H
    have c5b0 : (a0_2 == a1_2) = true := beq_iff_eq.mpr c5
    have c5b1 : (a0_2 != a1_2) = false := bne_eq_false_iff_eq.mpr c5
    clear c5
    replace H := Option.bind_eq_some_iff.mp H
    obtain ⟨t1003, A60, H⟩ := H
    replace H : (if t1003 = true then (some true) else (some false)) = some r := H
    have A6 := am_ A60
    clear A60
    by_cases c7 : t1003 = true
    ·subst c7
     have H1 : (some true) = some r := by rw [if_pos rfl] at H; exact H
     clear H
     have H := H1
     clear H1
     obtain rfl := Option.some.inj H
     go_enter Try.func52, Try.ntmps52
     go_wp2_with (first | ((with_reducible refine gate_dst (N := 2) rfl ?_); refine box_event ?hg (N := 2) ?hd (cs := #[.int .i64 a0_0, .int .i64 a0_1, .int .i64 a0_2, .slice A0_3 l0_3.length c0_3]) (t := 67) ?hr ?_; (case hd => rfl); (case hg => rfl); (case hr => first | (go_simp; done) | (go_simp; rfl)); intro gb1001 hg w8 hbox hb; have n0_ := am_ (below_step bl_ hb); have n1_ := am_ (hbox); have n2_ := am_ (gs_ hg : w.heap.size ≤ gb1001); have n3_ := n2_; clear HB; have HB := n0_; have BK1001 := n1_; have GW1001 := n2_; have GE1001 := n3_; clear n0_ n1_ n2_ n3_; clear hb hbox hg) | ((with_reducible refine gate_dst (N := 3) rfl ?_); refine box_event ?hg (N := 3) ?hd (cs := #[.int .i64 a1_0, .int .i64 a1_1, .int .i64 a1_2, .slice A1_3 l1_3.length c1_3]) (t := 67) ?hr ?_; (case hd => rfl); (case hg => rfl); (case hr => first | (go_simp; done) | (go_simp; rfl)); intro gb1002 hg w9 hbox hb; have n0_ := am_ (blk_below (g := gb1001) (vk_ BK1001) hb); have n1_ := am_ (below_step bg_ hb); have n2_ := am_ (hbox); have n3_ := am_ (gg_ hg : w.heap.size ≤ gb1002); have n4_ := n3_; have n5_ := am_ ((by rw [hg]; exact Nat.ne_of_lt (blk_lt (g := gb1001) (o := .cells #[.int .i64 a0_0, .int .i64 a0_1, .int .i64 a0_2, .slice A0_3 l0_3.length c0_3] 67 (0, 0)) (vk_ BK1001)) : gb1001 ≠ gb1002)); have n6_ := am_ ((by rw [hg]; exact Nat.ne_of_gt (blk_lt (g := gb1001) (o := .cells #[.int .i64 a0_0, .int .i64 a0_1, .int .i64 a0_2, .slice A0_3 l0_3.length c0_3] 67 (0, 0)) (vk_ BK1001)) : gb1002 ≠ gb1001)); clear BK1001; clear HB; have BK1001 := n0_; have HB := n1_; have BK1002 := n2_; have GW1002 := n3_; have GE1002 := n4_; have NB1001_1002 := n5_; have NB1002_1001 := n6_; clear n0_ n1_ n2_ n3_ n4_ n5_ n6_; clear hb hbox hg; have hnb10 := NB1001_1002.out; have hnc10 := NB1002_1001.out; have hcz11_0 := bc4_0 BK1001; have hcz11_1 := bc4_1 BK1001; have hcz11_2 := bc4_2 BK1001; have hcz11_3 := bc4_3 BK1001; have hfz11_0 := bf_ BK1001 0; have hfz11_1 := bf_ BK1001 1; have hfz11_2 := bf_ BK1001 2; have hfz11_3 := bf_ BK1001 3; have hcz12_0 := bc4_0 BK1002; have hcz12_1 := bc4_1 BK1002; have hcz12_2 := bc4_2 BK1002; have hcz12_3 := bc4_3 BK1002; have hfz12_0 := bf_ BK1002 0; have hfz12_1 := bf_ BK1002 1; have hfz12_2 := bf_ BK1002 2; have hfz12_3 := bf_ BK1002 3) | ((with_reducible refine gate_callee (f := 103) rfl ?_); refine goesL_ (some 24) rfl rfl Try.func103 (by kernel_rfl) rfl #[.slice A0_3 l0_3.length c0_3, .slice A1_3 l1_3.length c1_3] rfl ag_ ?_; (with_reducible refine (laws_eqSeriesS.calls k _ _ l0_3 _ _ l1_3 true _ ?side1 ?side2 ?side3 ?side4 A6.out).mono ?_); (case side1 => exact cc_ (Kd.C_below HR0_3.out HB.out)); (case side2 => exact HC0_3.out); (case side3 => exact cc_ (Kd.C_below HR1_3.out HB.out)); (case side4 => exact HC1_3.out); rintro e w13 ⟨rfl, hb⟩; refine ⟨_, rfl, ?_⟩; have n0_ := am_ (blk_below (g := gb1001) (vk_ BK1001) hb); have n1_ := am_ (blk_below (g := gb1002) (vk_ BK1002) hb); have n2_ := am_ (below_step bg_ hb); clear BK1001; clear BK1002; clear HB; have BK1001 := n0_; have BK1002 := n1_; have HB := n2_; clear n0_ n1_ n2_; (try clear hb); (try clear hb2); (try clear hk); (try clear hi)))
     go_ret
     exact ⟨rf_, bg_⟩
    ·replace c7 := Bool.eq_false_iff.mpr c7
     subst c7
     have H1 : (some false) = some r := by rw [if_neg (show ¬ (false = true) by decide)] at H; exact H
     clear H
     have H := H1
     clear H1
     obtain rfl := Option.some.inj H
     go_enter Try.func52, Try.ntmps52
     go_wp2_with (first | ((with_reducible refine gate_dst (N := 2) rfl ?_); refine box_event ?hg (N := 2) ?hd (cs := #[.int .i64 a0_0, .int .i64 a0_1, .int .i64 a0_2, .slice A0_3 l0_3.length c0_3]) (t := 67) ?hr ?_; (case hd => rfl); (case hg => rfl); (case hr => first | (go_simp; done) | (go_simp; rfl)); intro gb1001 hg w14 hbox hb; have n0_ := am_ (below_step bl_ hb); have n1_ := am_ (hbox); have n2_ := am_ (gs_ hg : w.heap.size ≤ gb1001); have n3_ := n2_; clear HB; have HB := n0_; have BK1001 := n1_; have GW1001 := n2_; have GE1001 := n3_; clear n0_ n1_ n2_ n3_; clear hb hbox hg) | ((with_reducible refine gate_dst (N := 3) rfl ?_); refine box_event ?hg (N := 3) ?hd (cs := #[.int .i64 a1_0, .int .i64 a1_1, .int .i64 a1_2, .slice A1_3 l1_3.length c1_3]) (t := 67) ?hr ?_; (case hd => rfl); (case hg => rfl); (case hr => first | (go_simp; done) | (go_simp; rfl)); intro gb1002 hg w15 hbox hb; have n0_ := am_ (blk_below (g := gb1001) (vk_ BK1001) hb); have n1_ := am_ (below_step bg_ hb); have n2_ := am_ (hbox); have n3_ := am_ (gg_ hg : w.heap.size ≤ gb1002); have n4_ := n3_; have n5_ := am_ ((by rw [hg]; exact Nat.ne_of_lt (blk_lt (g := gb1001) (o := .cells #[.int .i64 a0_0, .int .i64 a0_1, .int .i64 a0_2, .slice A0_3 l0_3.length c0_3] 67 (0, 0)) (vk_ BK1001)) : gb1001 ≠ gb1002)); have n6_ := am_ ((by rw [hg]; exact Nat.ne_of_gt (blk_lt (g := gb1001) (o := .cells #[.int .i64 a0_0, .int .i64 a0_1, .int .i64 a0_2, .slice A0_3 l0_3.length c0_3] 67 (0, 0)) (vk_ BK1001)) : gb1002 ≠ gb1001)); clear BK1001; clear HB; have BK1001 := n0_; have HB := n1_; have BK1002 := n2_; have GW1002 := n3_; have GE1002 := n4_; have NB1001_1002 := n5_; have NB1002_1001 := n6_; clear n0_ n1_ n2_ n3_ n4_ n5_ n6_; clear hb hbox hg; have hnb16 := NB1001_1002.out; have hnc16 := NB1002_1001.out; have hcz17_0 := bc4_0 BK1001; have hcz17_1 := bc4_1 BK1001; have hcz17_2 := bc4_2 BK1001; have hcz17_3 := bc4_3 BK1001; have hfz17_0 := bf_ BK1001 0; have hfz17_1 := bf_ BK1001 1; have hfz17_2 := bf_ BK1001 2; have hfz17_3 := bf_ BK1001 3; have hcz18_0 := bc4_0 BK1002; have hcz18_1 := bc4_1 BK1002; have hcz18_2 := bc4_2 BK1002; have hcz18_3 := bc4_3 BK1002; have hfz18_0 := bf_ BK1002 0; have hfz18_1 := bf_ BK1002 1; have hfz18_2 := bf_ BK1002 2; have hfz18_3 := bf_ BK1002 3) | ((with_reducible refine gate_callee (f := 103) rfl ?_); refine goesL_ (some 24) rfl rfl Try.func103 (by kernel_rfl) rfl #[.slice A0_3 l0_3.length c0_3, .slice A1_3 l1_3.length c1_3] rfl ag_ ?_; (with_reducible refine (laws_eqSeriesS.calls k _ _ l0_3 _ _ l1_3 false _ ?side1 ?side2 ?side3 ?side4 A6.out).mono ?_); (case side1 => exact cc_ (Kd.C_below HR0_3.out HB.out)); (case side2 => exact HC0_3.out); (case side3 => exact cc_ (Kd.C_below HR1_3.out HB.out)); (case side4 => exact HC1_3.out); rintro e w19 ⟨rfl, hb⟩; refine ⟨_, rfl, ?_⟩; have n0_ := am_ (blk_below (g := gb1001) (vk_ BK1001) hb); have n1_ := am_ (blk_below (g := gb1002) (vk_ BK1002) hb); have n2_ := am_ (below_step bg_ hb); clear BK1001; clear BK1002; clear HB; have BK1001 := n0_; have BK1002 := n1_; have HB := n2_; clear n0_ n1_ n2_; (try clear hb); (try clear hb2); (try clear hk); (try clear hi)))
     go_ret
     exact ⟨rf_, bg_⟩
   ·rw [if_neg c5] at H
    have c5b0 : (a0_2 == a1_2) = false := beq_eq_false_iff_ne.mpr c5
    have c5b1 : (a0_2 != a1_2) = true := bne_iff_ne.mpr c5
    obtain rfl := Option.some.inj H
    go_enter Try.func52, Try.ntmps52
    go_wp2_with (first | ((with_reducible refine gate_dst (N := 2) rfl ?_); refine box_event ?hg (N := 2) ?hd (cs := #[.int .i64 a0_0, .int .i64 a0_1, .int .i64 a0_2, .slice A0_3 l0_3.length c0_3]) (t := 67) ?hr ?_; (case hd => rfl); (case hg => rfl); (case hr => first | (go_simp; done) | (go_simp; rfl)); intro gb1001 hg w20 hbox hb; have n0_ := am_ (below_step bl_ hb); have n1_ := am_ (hbox); have n2_ := am_ (gs_ hg : w.heap.size ≤ gb1001); have n3_ := n2_; clear HB; have HB := n0_; have BK1001 := n1_; have GW1001 := n2_; have GE1001 := n3_; clear n0_ n1_ n2_ n3_; clear hb hbox hg) | ((with_reducible refine gate_dst (N := 3) rfl ?_); refine box_event ?hg (N := 3) ?hd (cs := #[.int .i64 a1_0, .int .i64 a1_1, .int .i64 a1_2, .slice A1_3 l1_3.length c1_3]) (t := 67) ?hr ?_; (case hd => rfl); (case hg => rfl); (case hr => first | (go_simp; done) | (go_simp; rfl)); intro gb1002 hg w21 hbox hb; have n0_ := am_ (blk_below (g := gb1001) (vk_ BK1001) hb); have n1_ := am_ (below_step bg_ hb); have n2_ := am_ (hbox); have n3_ := am_ (gg_ hg : w.heap.size ≤ gb1002); have n4_ := n3_; have n5_ := am_ ((by rw [hg]; exact Nat.ne_of_lt (blk_lt (g := gb1001) (o := .cells #[.int .i64 a0_0, .int .i64 a0_1, .int .i64 a0_2, .slice A0_3 l0_3.length c0_3] 67 (0, 0)) (vk_ BK1001)) : gb1001 ≠ gb1002)); have n6_ := am_ ((by rw [hg]; exact Nat.ne_of_gt (blk_lt (g := gb1001) (o := .cells #[.int .i64 a0_0, .int .i64 a0_1, .int .i64 a0_2, .slice A0_3 l0_3.length c0_3] 67 (0, 0)) (vk_ BK1001)) : gb1002 ≠ gb1001)); clear BK1001; clear HB; have BK1001 := n0_; have HB := n1_; have BK1002 := n2_; have GW1002 := n3_; have GE1002 := n4_; have NB1001_1002 := n5_; have NB1002_1001 := n6_; clear n0_ n1_ n2_ n3_ n4_ n5_ n6_; clear hb hbox hg; have hnb22 := NB1001_1002.out; have hnc22 := NB1002_1001.out; have hcz23_0 := bc4_0 BK1001; have hcz23_1 := bc4_1 BK1001; have hcz23_2 := bc4_2 BK1001; have hcz23_3 := bc4_3 BK1001; have hfz23_0 := bf_ BK1001 0; have hfz23_1 := bf_ BK1001 1; have hfz23_2 := bf_ BK1001 2; have hfz23_3 := bf_ BK1001 3; have hcz24_0 := bc4_0 BK1002; have hcz24_1 := bc4_1 BK1002; have hcz24_2 := bc4_2 BK1002; have hcz24_3 := bc4_3 BK1002; have hfz24_0 := bf_ BK1002 0; have hfz24_1 := bf_ BK1002 1; have hfz24_2 := bf_ BK1002 2; have hfz24_3 := bf_ BK1002 3))
    go_ret
    exact ⟨rf_, bg_⟩
  ·rw [if_neg c4] at H
   have c4b0 : (a0_1 == a1_1) = false := beq_eq_false_iff_ne.mpr c4
   have c4b1 : (a0_1 != a1_1) = true := bne_iff_ne.mpr c4
   obtain rfl := Option.some.inj H
   go_enter Try.func52, Try.ntmps52
   go_wp2_with (first | ((with_reducible refine gate_dst (N := 2) rfl ?_); refine box_event ?hg (N := 2) ?hd (cs := #[.int .i64 a0_0, .int .i64 a0_1, .int .i64 a0_2, .slice A0_3 l0_3.length c0_3]) (t := 67) ?hr ?_; (case hd => rfl); (case hg => rfl); (case hr => first | (go_simp; done) | (go_simp; rfl)); intro gb1001 hg w25 hbox hb; have n0_ := am_ (below_step bl_ hb); have n1_ := am_ (hbox); have n2_ := am_ (gs_ hg : w.heap.size ≤ gb1001); have n3_ := n2_; clear HB; have HB := n0_; have BK1001 := n1_; have GW1001 := n2_; have GE1001 := n3_; clear n0_ n1_ n2_ n3_; clear hb hbox hg) | ((with_reducible refine gate_dst (N := 3) rfl ?_); refine box_event ?hg (N := 3) ?hd (cs := #[.int .i64 a1_0, .int .i64 a1_1, .int .i64 a1_2, .slice A1_3 l1_3.length c1_3]) (t := 67) ?hr ?_; (case hd => rfl); (case hg => rfl); (case hr => first | (go_simp; done) | (go_simp; rfl)); intro gb1002 hg w26 hbox hb; have n0_ := am_ (blk_below (g := gb1001) (vk_ BK1001) hb); have n1_ := am_ (below_step bg_ hb); have n2_ := am_ (hbox); have n3_ := am_ (gg_ hg : w.heap.size ≤ gb1002); have n4_ := n3_; have n5_ := am_ ((by rw [hg]; exact Nat.ne_of_lt (blk_lt (g := gb1001) (o := .cells #[.int .i64 a0_0, .int .i64 a0_1, .int .i64 a0_2, .slice A0_3 l0_3.length c0_3] 67 (0, 0)) (vk_ BK1001)) : gb1001 ≠ gb1002)); have n6_ := am_ ((by rw [hg]; exact Nat.ne_of_gt (blk_lt (g := gb1001) (o := .cells #[.int .i64 a0_0, .int .i64 a0_1, .int .i64 a0_2, .slice A0_3 l0_3.length c0_3] 67 (0, 0)) (vk_ BK1001)) : gb1002 ≠ gb1001)); clear BK1001; clear HB; have BK1001 := n0_; have HB := n1_; have BK1002 := n2_; have GW1002 := n3_; have GE1002 := n4_; have NB1001_1002 := n5_; have NB1002_1001 := n6_; clear n0_ n1_ n2_ n3_ n4_ n5_ n6_; clear hb hbox hg; have hnb27 := NB1001_1002.out; have hnc27 := NB1002_1001.out; have hcz28_0 := bc4_0 BK1001; have hcz28_1 := bc4_1 BK1001; have hcz28_2 := bc4_2 BK1001; have hcz28_3 := bc4_3 BK1001; have hfz28_0 := bf_ BK1001 0; have hfz28_1 := bf_ BK1001 1; have hfz28_2 := bf_ BK1001 2; have hfz28_3 := bf_ BK1001 3; have hcz29_0 := bc4_0 BK1002; have hcz29_1 := bc4_1 BK1002; have hcz29_2 := bc4_2 BK1002; have hcz29_3 := bc4_3 BK1002; have hfz29_0 := bf_ BK1002 0; have hfz29_1 := bf_ BK1002 1; have hfz29_2 := bf_ BK1002 2; have hfz29_3 := bf_ BK1002 3))
   go_ret
   exact ⟨rf_, bg_⟩
 ·rw [if_neg c3] at H
  have c3b0 : (a0_0 == a1_0) = false := beq_eq_false_iff_ne.mpr c3
  have c3b1 : (a0_0 != a1_0) = true := bne_iff_ne.mpr c3
  obtain rfl := Option.some.inj H
  go_enter Try.func52, Try.ntmps52
  go_wp2_with (first | ((with_reducible refine gate_dst (N := 2) rfl ?_); refine box_event ?hg (N := 2) ?hd (cs := #[.int .i64 a0_0, .int .i64 a0_1, .int .i64 a0_2, .slice A0_3 l0_3.length c0_3]) (t := 67) ?hr ?_; (case hd => rfl); (case hg => rfl); (case hr => first | (go_simp; done) | (go_simp; rfl)); intro gb1001 hg w30 hbox hb; have n0_ := am_ (below_step bl_ hb); have n1_ := am_ (hbox); have n2_ := am_ (gs_ hg : w.heap.size ≤ gb1001); have n3_ := n2_; clear HB; have HB := n0_; have BK1001 := n1_; have GW1001 := n2_; have GE1001 := n3_; clear n0_ n1_ n2_ n3_; clear hb hbox hg) | ((with_reducible refine gate_dst (N := 3) rfl ?_); refine box_event ?hg (N := 3) ?hd (cs := #[.int .i64 a1_0, .int .i64 a1_1, .int .i64 a1_2, .slice A1_3 l1_3.length c1_3]) (t := 67) ?hr ?_; (case hd => rfl); (case hg => rfl); (case hr => first | (go_simp; done) | (go_simp; rfl)); intro gb1002 hg w31 hbox hb; have n0_ := am_ (blk_below (g := gb1001) (vk_ BK1001) hb); have n1_ := am_ (below_step bg_ hb); have n2_ := am_ (hbox); have n3_ := am_ (gg_ hg : w.heap.size ≤ gb1002); have n4_ := n3_; have n5_ := am_ ((by rw [hg]; exact Nat.ne_of_lt (blk_lt (g := gb1001) (o := .cells #[.int .i64 a0_0, .int .i64 a0_1, .int .i64 a0_2, .slice A0_3 l0_3.length c0_3] 67 (0, 0)) (vk_ BK1001)) : gb1001 ≠ gb1002)); have n6_ := am_ ((by rw [hg]; exact Nat.ne_of_gt (blk_lt (g := gb1001) (o := .cells #[.int .i64 a0_0, .int .i64 a0_1, .int .i64 a0_2, .slice A0_3 l0_3.length c0_3] 67 (0, 0)) (vk_ BK1001)) : gb1002 ≠ gb1001)); clear BK1001; clear HB; have BK1001 := n0_; have HB := n1_; have BK1002 := n2_; have GW1002 := n3_; have GE1002 := n4_; have NB1001_1002 := n5_; have NB1002_1001 := n6_; clear n0_ n1_ n2_ n3_ n4_ n5_ n6_; clear hb hbox hg; have hnb32 := NB1001_1002.out; have hnc32 := NB1002_1001.out; have hcz33_0 := bc4_0 BK1001; have hcz33_1 := bc4_1 BK1001; have hcz33_2 := bc4_2 BK1001; have hcz33_3 := bc4_3 BK1001; have hfz33_0 := bf_ BK1001 0; have hfz33_1 := bf_ BK1001 1; have hfz33_2 := bf_ BK1001 2; have hfz33_3 := bf_ BK1001 3; have hcz34_0 := bc4_0 BK1002; have hcz34_1 := bc4_1 BK1002; have hcz34_2 := bc4_2 BK1002; have hcz34_3 := bc4_3 BK1002; have hfz34_0 := bf_ BK1002 0; have hfz34_1 := bf_ BK1002 1; have hfz34_2 := bf_ BK1002 2; have hfz34_3 := bf_ BK1002 3))
  go_ret
  exact ⟨rf_, bg_⟩

/-! ### laws_markText: function 144 -/
def laws_markText.l0 : Nat → Int → ByteArray → Option (ByteArray)
 | 0, _, _ => none
 | k + 1, x0, x3 => if x0 > 0 then ((some (([(wrap64 (48 + (Int.tmod x0 10))) % 256] : List Int) : List Int)).bind fun y1001 => (if (strOfNums y1001).size + x3.size ≤ 9223372036854775807 then (laws_markText.l0 k (wrap64 (Int.tdiv x0 10)) ((strOfNums y1001) ++ x3)) else (none))) else (if 1 + x3.size ≤ 9223372036854775807 then (some ((⟨#[109]⟩ : ByteArray) ++ x3)) else (none))
def laws_markText.f (k : Nat) (a0 : Int) : Option (ByteArray) := if a0 ≤ 0 then (some (⟨#[109, 48]⟩ : ByteArray)) else (laws_markText.l0 k a0 (⟨#[]⟩ : ByteArray))
theorem laws_markText.mono_l : ∀ k, (∀ y0 y1, LeO (laws_markText.l0 k y0 y1) (laws_markText.l0 (k + 1) y0 y1))
 | 0 => fun _ _ r h => by simp [laws_markText.l0] at h
 | k + 1 => by
  have ih0 := laws_markText.mono_l k
  ·intro y0 y1
   unfold laws_markText.l0
   repeat' first
   | with_reducible first | exact ih0 _ _ | exact LeO.refl _ | exact LeO.none _ | refine LeO.ite ?_ ?_ | refine LeO.bind ?_ (fun _ => ?_)
   | exact ih0 _ _
   | exact LeO.none _
   | refine LeO.ite ?_ ?_
   | refine LeO.bind ?_ (fun _ => ?_)
theorem laws_markText.mono : ∀ a0 k, LeO (laws_markText.f k a0) (laws_markText.f (k + 1) a0) := by
 intro a0 k
 have ih0 := laws_markText.mono_l k
 unfold laws_markText.f
 repeat' first
   | with_reducible first | exact ih0 _ _ | exact LeO.refl _ | exact LeO.none _ | refine LeO.ite ?_ ?_ | refine LeO.bind ?_ (fun _ => ?_)
   | exact ih0 _ _
   | exact LeO.none _
   | refine LeO.ite ?_ ?_
   | refine LeO.bind ?_ (fun _ => ?_)
set_option maxHeartbeats 8000000 in
set_option maxRecDepth 100000 in
theorem laws_markText.calls (k : Nat) (a0 : Int) (r : ByteArray) (w : World) (h : laws_markText.f k a0 = some r) :
  Calls Try.prog 144 #[.int .i64 a0] w fun e w' => e = .returned (.string r) ∧ Below w.heap.size w w' := by
 have HB := am_ (Below.refl w.heap.size w)
 have H : (if a0 ≤ 0 then (some (⟨#[109, 48]⟩ : ByteArray)) else (laws_markText.l0 k a0 (⟨#[]⟩ : ByteArray))) = some r := h
 clear h
 by_cases c2 : a0 ≤ 0
 ·rw [if_pos c2] at H
  have c2b0 : decide (a0 ≤ 0) = true := decide_eq_true c2
  clear c2
  obtain rfl := Option.some.inj H
  go_enter Try.func144, Try.ntmps144
  go_wp2
  go_ret
  exact ⟨rf_, bl_⟩
 ·rw [if_neg c2] at H
  have c2b0 : decide (a0 ≤ 0) = false := decide_eq_false c2
  clear c2
  have H' := am_ H
  clear H
  go_enter Try.func144, Try.ntmps144
  go_wp2
  go_loopg [0, 3] k (fun kq v0 v3 w' => ∃ (x0_1 : Int) (x3_1 : ByteArray), v0 = .int .i64 x0_1 ∧ v3 = .string x3_1 ∧ Aside0 (laws_markText.l0 kq x0_1 x3_1 = some r) ∧ Aside0 (kq ≤ k) ∧ Aside0 (Below w.heap.size w w'))
  case atStart => exact ⟨(a0), ((⟨#[]⟩ : ByteArray)), rs_, rs_, H', ⟨Nat.le_refl _⟩, ⟨bl_⟩⟩
  case round =>
   clear H'
   try clear c1
   try clear c2
   try clear c2b0
   try clear p2
   obtain ⟨x0_1, x3_1, rfl, rfl, HA, HK1, HB⟩ := hrel
   cases gk with
   | zero => exact absurd HA.out (by simp [laws_markText.l0])
   | succ k1 =>
    have H := HA.out
    clear HA
    simp only [laws_markText.l0] at H
    by_cases c3 : x0_1 > 0
    ·rw [if_pos c3] at H
     have c3b0 : decide (0 < x0_1) = true := decide_eq_true c3
     clear c3
     obtain ⟨y1001, hy1001⟩ : ∃ y_ : List Int, y_ = (([(wrap64 (48 + (Int.tmod x0_1 10))) % 256] : List Int)) := ⟨_, rfl⟩
     replace H : (if (strOfNums y1001).size + x3_1.size ≤ 9223372036854775807 then (laws_markText.l0 k1 (wrap64 (Int.tdiv x0_1 10)) ((strOfNums y1001) ++ x3_1)) else (none)) = some r := by first | (rw [hy1001]; with_reducible exact H) | (have H2_ := (Option.bind_some _ _).symm.trans H; rw [hy1001]; with_reducible exact H2_) | (have H2_ := (Option.bind_some _ _).symm.trans H; with_reducible exact H2_) | with_reducible exact H | (rw [hy1001]; exact H) | exact H
     have Ny1001 := am_ hy1001
     clear hy1001
     by_cases c4 : (strOfNums y1001).size + x3_1.size ≤ 9223372036854775807
     ·rw [if_pos c4] at H
      have c4b0 := eq_true c4
      have c4b1 : decide ((strOfNums y1001).size + x3_1.size ≤ 9223372036854775807) = true := decide_eq_true c4
      try have c4b2 : (9223372036854775807 < (strOfNums y1001).size + x3_1.size) = False := eq_false (Nat.not_lt.2 c4)
      have H' := am_ H
      clear H
      go_wp2_with (first | ((with_reducible refine gate_dst (N := 12) rfl ?_); refine Kd.R_lit (Kd.int .u8) _ 5 ?hg (N := 12) ?hd (xs := ([(wrap64 (48 + (Int.tmod x0_1 10))) % 256] : List Int)) (inner := [.int .u8 ((wrap64 (48 + (Int.tmod x0_1 10))) % 256)]) (ok := fun _ => True) (okp := fun _ => True) ?hr ?hp (fun _ hk => hk) trivial (Below.refl _ _) (Nat.le_refl _) (by simp) ?_; (case hd => rfl); (case hg => rfl); (case hr => first | (go_simp; done) | (go_simp; rfl)); (case hp => exact (Reps.one (show Kd.M (Kd.int .u8) _ _ _ ((wrap64 (48 + (Int.tmod x0_1 10))) % 256) [.int .u8 ((wrap64 (48 + (Int.tmod x0_1 10))) % 256)] from rfl) (Reps.none _ _))); intro v1002 w5 ho6 hb hg_ hnew_; clear hg_ hnew_; (first | rw [← Ny1001.out] at ho6 | (simp only [Int.reduceToNat] at ho6; rw [← Ny1001.out] at ho6)); have n0_ := am_ (Kd.R_lower ho6 (below_size bl_)); have n1_ := am_ (below_step bl_ hb); clear HB; have HO1003 := n0_; have HB := n1_; clear n0_ n1_; clear hb ho6; have hcv7 := own_string (P := Try.prog) Try.underlying22 Try.underlying5 Try.underlying9 (Kd.own_of_R HO1003.out)))
      go_roundg k1
      case measure => have := HK1.out; omega
      case rel => exact ⟨(wrap64 (Int.tdiv x0_1 10)), ((strOfNums y1001) ++ x3_1), rs_, rs_, H', ⟨by have := HK1.out; omega⟩, ⟨bl_⟩⟩
     ·rw [if_neg c4] at H
      exact absurd H (by simp)
    ·rw [if_neg c3] at H
     have c3b0 : decide (0 < x0_1) = false := decide_eq_false c3
     clear c3
     by_cases c8 : 1 + x3_1.size ≤ 9223372036854775807
     ·rw [if_pos c8] at H
      have c8b0 := eq_true c8
      have c8b1 : decide (1 + x3_1.size ≤ 9223372036854775807) = true := decide_eq_true c8
      try have c8b2 : (9223372036854775807 < 1 + x3_1.size) = False := eq_false (Nat.not_lt.2 c8)
      obtain rfl := Option.some.inj H
      go_wp2
      go_ret
      exact ⟨rf_, bl_⟩
     ·rw [if_neg c8] at H
      exact absurd H (by simp)

/-! ### laws_markLabelS: function 133 -/
def laws_markLabelS.l0 : Nat → List (S104) → Int → Int → Option (Int × (List (S104)))
 | 0, _, _, _ => none
 | k + 1, x0, x1, x5 => if x5 < (x0.length : Int) then ((laws_markText.f k x1).bind fun t1001 => (if 0 ≤ x5 then ((some (x0.set (x5 : Int).toNat (⟨t1001, (rd_T104 x0 x5).f1⟩ : S104) : List (S104))).bind fun y1002 => ((laws_markText.f k (wrap64 (x1 + 1))).bind fun t1003 => (laws_markLabelS.l0 k (y1002.set (x5 : Int).toNat (⟨(rd_T104 y1002 x5).f0, t1003⟩ : S104)) (wrap64 ((wrap64 (x1 + 1)) + 1)) (wrap64 (x5 + 1))))) else (none))) else (some (x1, x0))
def laws_markLabelS.f (k : Nat) (l0 : List (S104)) (a1 : Int) : Option (Int × (List (S104))) := laws_markLabelS.l0 k l0 a1 0
theorem laws_markLabelS.mono_l : ∀ k, (∀ y0 y1 y2, LeO (laws_markLabelS.l0 k y0 y1 y2) (laws_markLabelS.l0 (k + 1) y0 y1 y2))
 | 0 => fun _ _ _ r h => by simp [laws_markLabelS.l0] at h
 | k + 1 => by
  have ih0 := laws_markLabelS.mono_l k
  ·intro y0 y1 y2
   unfold laws_markLabelS.l0
   repeat' first
   | with_reducible first | exact ih0 _ _ _ | exact laws_markText.mono _ _ | exact LeO.refl _ | exact LeO.none _ | refine LeO.ite ?_ ?_ | refine LeO.bind ?_ (fun _ => ?_)
   | exact ih0 _ _ _
   | exact laws_markText.mono _ _
   | exact LeO.none _
   | refine LeO.ite ?_ ?_
   | refine LeO.bind ?_ (fun _ => ?_)
theorem laws_markLabelS.mono : ∀ a0 a1 k, LeO (laws_markLabelS.f k a0 a1) (laws_markLabelS.f (k + 1) a0 a1) := by
 intro a0 a1 k
 have ih0 := laws_markLabelS.mono_l k
 unfold laws_markLabelS.f
 repeat' first
   | with_reducible first | exact ih0 _ _ _ | exact laws_markText.mono _ _ | exact LeO.refl _ | exact LeO.none _ | refine LeO.ite ?_ ?_ | refine LeO.bind ?_ (fun _ => ?_)
   | exact ih0 _ _ _
   | exact laws_markText.mono _ _
   | exact LeO.none _
   | refine LeO.ite ?_ ?_
   | refine LeO.bind ?_ (fun _ => ?_)
set_option maxHeartbeats 8000000 in
set_option maxRecDepth 100000 in
theorem laws_markLabelS.calls (k : Nat) (P0_ : Nat → Prop) (u9000_ : Value) (l0 : List (S104)) (a1 : Int) (r1 : Int) (r2 : List (S104)) (w0 w : World) (hB : Below w0.heap.size w0 w) (ho0 : Kd.R k104 104 w w0.heap.size P0_ u9000_ l0) (h : laws_markLabelS.f k l0 a1 = some (r1, r2)) :
  Calls Try.prog 133 #[u9000_, .int .i64 a1] w fun e w' => e = .returned (.int .i64 r1) ∧ Kd.R k104 104 w' w0.heap.size (fun k_ => (P0_ k_ ∨ w.heap.size ≤ k_)) u9000_ r2 ∧ Below w0.heap.size w0 w' ∧ Kept w w' (fun k_ => P0_ k_) := by
 have HO0 := am_ (show Kd.R k104 104 w w0.heap.size (fun k_ => (P0_ k_ ∨ w.heap.size ≤ k_)) u9000_ l0 from Kd.R_mono ho0 (fun k_ hk => (.inl hk)))
 have HK := am_ (Kept.refl w (fun k_ => P0_ k_))
 have HW0 := am_ hB.size
 have HB := am_ hB
 clear hB
 have H : (laws_markLabelS.l0 k l0 a1 0) = some (r1, r2) := h
 clear h
 have H' := am_ H
 clear H
 go_enter Try.func133, Try.ntmps133
 go_wp2
 go_loopg [1, 5] k (fun kq v1 v5 w' => ∃ (x0_1 : List (S104)) (x1_1 : Int) (x5_1 : Int), v1 = .int .i64 x1_1 ∧ v5 = .int .i64 x5_1 ∧ Aside0 (laws_markLabelS.l0 kq x0_1 x1_1 x5_1 = some (r1, r2)) ∧ Aside0 (kq ≤ k) ∧ Aside0 (Kd.R k104 104 w' w0.heap.size (fun k_ => (P0_ k_ ∨ w.heap.size ≤ k_)) u9000_ x0_1) ∧ Aside0 (Kept w w' (fun k_ => P0_ k_)) ∧ Aside0 (Below w0.heap.size w0 w'))
 case atStart => exact ⟨(l0), (a1), (0), rs_, rs_, H', ⟨Nat.le_refl _⟩, ⟨ro_ HO0⟩, ⟨by repeat (first | (with_reducible first | exact HK.out | apply Kept.alloc | apply Kept.drewN | apply Kept.drew) | exact HK.out)⟩, ⟨bl_⟩⟩
 case round =>
  clear H'
  try clear c1
  try clear p2
  obtain ⟨x0_1, x1_1, x5_1, rfl, rfl, HA, HK1, HO_0, HK, HB⟩ := hrel
  cases gk with
  | zero => exact absurd HA.out (by simp [laws_markLabelS.l0])
  | succ k1 =>
   have H := HA.out
   clear HA
   simp only [laws_markLabelS.l0] at H
   by_cases c3 : x5_1 < (x0_1.length : Int)
   ·rw [if_pos c3] at H
    have c3b0 : decide (x5_1 < (x0_1.length : Int)) = true := decide_eq_true c3
    clear c3
    replace H := Option.bind_eq_some_iff.mp H
    obtain ⟨t1001, A40, H⟩ := H
    replace H : (if 0 ≤ x5_1 then ((some (x0_1.set (x5_1 : Int).toNat (⟨t1001, (rd_T104 x0_1 x5_1).f1⟩ : S104) : List (S104))).bind fun y1002 => ((laws_markText.f k1 (wrap64 (x1_1 + 1))).bind fun t1003 => (laws_markLabelS.l0 k1 (y1002.set (x5_1 : Int).toNat (⟨(rd_T104 y1002 x5_1).f0, t1003⟩ : S104)) (wrap64 ((wrap64 (x1_1 + 1)) + 1)) (wrap64 (x5_1 + 1))))) else (none)) = some (r1, r2) := H
    have A4 := am_ A40
    clear A40
    by_cases c5 : 0 ≤ x5_1
    ·rw [if_pos c5] at H
     have c5b0 : decide (0 ≤ x5_1) = true := decide_eq_true c5
     clear c5
     obtain ⟨y1002, hy1002⟩ : ∃ y_ : List (S104), y_ = (x0_1.set (x5_1 : Int).toNat (⟨t1001, (rd_T104 x0_1 x5_1).f1⟩ : S104)) := ⟨_, rfl⟩
     replace H : ((laws_markText.f k1 (wrap64 (x1_1 + 1))).bind fun t1003 => (laws_markLabelS.l0 k1 (y1002.set (x5_1 : Int).toNat (⟨(rd_T104 y1002 x5_1).f0, t1003⟩ : S104)) (wrap64 ((wrap64 (x1_1 + 1)) + 1)) (wrap64 (x5_1 + 1)))) = some (r1, r2) := by first | (rw [hy1002]; with_reducible exact H) | (have H2_ := (Option.bind_some _ _).symm.trans H; rw [hy1002]; with_reducible exact H2_) | (have H2_ := (Option.bind_some _ _).symm.trans H; with_reducible exact H2_) | with_reducible exact H | (rw [hy1002]; exact H) | exact H
     have Ny1002 := am_ hy1002
     clear hy1002
     replace H := Option.bind_eq_some_iff.mp H
     obtain ⟨t1003, A70, H⟩ := H
     replace H : (laws_markLabelS.l0 k1 (y1002.set (x5_1 : Int).toNat (⟨(rd_T104 y1002 x5_1).f0, t1003⟩ : S104)) (wrap64 ((wrap64 (x1_1 + 1)) + 1)) (wrap64 (x5_1 + 1))) = some (r1, r2) := H
     have A7 := am_ A70
     clear A70
     obtain ⟨y1004, hy1004⟩ : ∃ y_ : List (S104), y_ = (y1002.set (x5_1 : Int).toNat (⟨(rd_T104 y1002 x5_1).f0, t1003⟩ : S104)) := ⟨_, rfl⟩
     replace H : (laws_markLabelS.l0 k1 y1004 (wrap64 ((wrap64 (x1_1 + 1)) + 1)) (wrap64 (x5_1 + 1))) = some (r1, r2) := by first | (rw [hy1004]; with_reducible exact H) | (have H2_ := (Option.bind_some _ _).symm.trans H; rw [hy1004]; with_reducible exact H2_) | (have H2_ := (Option.bind_some _ _).symm.trans H; with_reducible exact H2_) | with_reducible exact H | (rw [hy1004]; exact H) | exact H
     have Ny1004 := am_ hy1004
     clear hy1004
     have H' := am_ H
     clear H
     obtain ⟨Ao9, co9, eo9⟩ := Kd.R_slice HO_0.out
     subst eo9
     go_wp2_with (first | ((with_reducible refine gate_callee (f := 144) rfl ?_); refine goesL_ (some 15) rfl rfl Try.func144 (by kernel_rfl) rfl #[.int .i64 x1_1] rfl ag_ ?_; (with_reducible refine (laws_markText.calls k1 x1_1 t1001 _ A4.out).mono ?_); rintro e w10 ⟨rfl, hb⟩; refine ⟨_, rfl, ?_⟩; have n0_ := am_ (Kd.R_below (ro_ HO_0) hb); have n1_ := am_ (Kept.below (S := (fun k_ => P0_ k_)) (by repeat (first | (with_reducible first | exact HK.out | apply Kept.alloc | apply Kept.drewN | apply Kept.drew) | exact HK.out)) hb); have n2_ := am_ (below_step bl_ hb); clear HO_0; clear HK; clear HB; have HO_0 := n0_; have HK := n1_; have HB := n2_; clear n0_ n1_ n2_; (try clear hb); (try clear hb2); (try clear hk); (try clear hi); have p6 : 0 ≤ (x5_1 : Int) := od_; have q6 : (x5_1 : Int) < ((x0_1.length : Int) : Int) := od_; obtain ⟨go6, co6, eo6, gb6, gl6, cl6, HG6⟩ := Kd.R_form HO_0.out (by omega); (first | cases eo6 | (injection eo6 with ea_ en_ ec_; (first | subst ea_ | (injection ea_ with ea_; subst ea_)); subst ec_; clear en_)); have GB6 := am_ gb6; have GG6 := am_ HG6; clear gb6 gl6 HG6; have HMgo6 := am_ (show (P0_ go6 ∨ w.heap.size ≤ go6) from (HO_0.out.1 _ rfl)); obtain ⟨ce6, hcl6, hM6, hcc6, hfr6⟩ := Kd.R_elem HO_0.out z104 (x5_1 : Int) p6 q6; obtain rfl := k104_openM hM6; have hx6_0 : w10.cell? ⟨go6, (x5_1 : Int).toNat * 2, none⟩ = some (.string ((rd_T104 x0_1 x5_1).f0)) := hcc6 0 _ rfl; have hx6_1 : w10.cell? ⟨go6, (x5_1 : Int).toNat * 2 + 1, none⟩ = some (.string ((rd_T104 x0_1 x5_1).f1)) := hcc6 1 _ rfl; have hf6_0 : w10.frozen? ⟨go6, (x5_1 : Int).toNat * 2, none⟩ = false := hfr6 0; have hf6_1 : w10.frozen? ⟨go6, (x5_1 : Int).toNat * 2 + 1, none⟩ = false := hfr6 1; clear hcl6 hcc6 hfr6 hM6; replace p6 := eq_true p6; replace q6 := eq_true q6; have HX11 := am_ (show Kd.R k104 104 w10 w0.heap.size (fun k_ => (P0_ k_ ∨ w.heap.size ≤ k_)) (.slice (some ⟨go6, 0, none⟩) x0_1.length co9) x0_1 from (ro_ HO_0)); obtain ⟨ce11, hcl11, hM11, hcc11, hfr11⟩ := Kd.R_elem HX11.out z104 (x5_1 : Int) (od_) (by have h_ : (x5_1 : Int) < ((x0_1.length : Int) : Int) := od_; first | exact h_ | (have e_ := (Kd.R_reads' HO_0.out).1; omega) | simpa using h_); obtain rfl := k104_openM hM11; have HP11 := Kd.R_seg HX11.out (x5_1 : Int) (od_) (by have h_ : (x5_1 : Int) < ((x0_1.length : Int) : Int) := od_; first | exact h_ | (have e_ := (Kd.R_reads' HO_0.out).1; omega) | simpa using h_) (seg := [.string t1001]) (j := 0) hcl11 hcc11 (show 1 ≤ 2 from by decide) (x' := (⟨t1001, (rd_T104 x0_1 x5_1).f1⟩ : S104)) (k104_mkM _ _ _ (⟨t1001, (rd_T104 x0_1 x5_1).f1⟩ : S104) ) (fun _ hk => hk); have hx11_0 := hcc11 0 _ rfl; (try simp only [show (k104).sz = 2 from rfl, Nat.mul_one, Nat.add_zero] at hx11_0); have hf11_0 := hfr11 0; (try simp only [show (k104).sz = 2 from rfl, Nat.mul_one, Nat.add_zero] at hf11_0); clear hcl11 hcc11 hfr11 hM11) | ((with_reducible refine gate_store (t := 9) (p := 17) rfl ?_); refine store_event (t := 9) (p := 17) (v := ?vo_w12) (w1 := (w10.setCell ⟨go6, (x5_1 : Int).toNat * 2, none⟩ (.string t1001))) ?hg ?ho ?hn ?hr ?_; (case ho => rfl); (case hg => rfl); (case hn => rfl); (case hr => first | (go_simp; done) | (go_simp; rfl)); intro w12 hw; have hg : w10.grownBy w12 (some go6) := (by rw [hw]; exact HP11.2); have hp_ : Kd.R k104 104 w12 w0.heap.size (fun k_ => (P0_ k_ ∨ w.heap.size ≤ k_)) (.slice (some ⟨go6, 0, none⟩) x0_1.length co9) y1002 := (by rw [hw, Ny1002.out]; exact HP11.1); clear HP11; have n0_ := am_ (hp_); have n1_ := am_ ((by rw [hw]; exact below_set (HB.out) GB6.out : Below w0.heap.size w0 w12)); have n2_ := am_ (Kept.of_grown (S := (fun k_ => P0_ k_)) hg (by repeat (first | (with_reducible first | exact HK.out | apply Kept.alloc | apply Kept.drewN | apply Kept.drew) | exact HK.out)) (fun k_ e_ => (HO_0.out.1 k_ e_))); clear HO_0; clear HB; clear HK; have HO_0 := n0_; have HB := n1_; have HK := n2_; clear n0_ n1_ n2_; clear hg hw hp_) | ((with_reducible refine gate_callee (f := 144) rfl ?_); refine goesL_ (some 23) rfl rfl Try.func144 (by kernel_rfl) rfl #[.int .i64 (wrap64 (x1_1 + 1))] rfl ag_ ?_; (with_reducible refine (laws_markText.calls k1 (wrap64 (x1_1 + 1)) t1003 _ A7.out).mono ?_); rintro e w13 ⟨rfl, hb⟩; refine ⟨_, rfl, ?_⟩; have n0_ := am_ (Kd.R_below (ro_ HO_0) hb); have n1_ := am_ (Kept.below (S := (fun k_ => P0_ k_)) (by repeat (first | (with_reducible first | exact HK.out | apply Kept.alloc | apply Kept.drewN | apply Kept.drew) | exact HK.out)) hb); have n2_ := am_ (below_step bl_ hb); clear HO_0; clear HK; clear HB; have HO_0 := n0_; have HK := n1_; have HB := n2_; clear n0_ n1_ n2_; (try clear hb); (try clear hb2); (try clear hk); (try clear hi); have p8 : 0 ≤ (x5_1 : Int) := od_; have q8 : (x5_1 : Int) < ((x0_1.length : Int) : Int) := od_; obtain ⟨ce8, hcl8, hM8, hcc8, hfr8⟩ := Kd.R_elem HO_0.out z104 (x5_1 : Int) p8 q8; obtain rfl := k104_openM hM8; have hx8_0 : w13.cell? ⟨go6, (x5_1 : Int).toNat * 2, none⟩ = some (.string ((rd_T104 y1002 x5_1).f0)) := hcc8 0 _ rfl; have hx8_1 : w13.cell? ⟨go6, (x5_1 : Int).toNat * 2 + 1, none⟩ = some (.string ((rd_T104 y1002 x5_1).f1)) := hcc8 1 _ rfl; have hf8_0 : w13.frozen? ⟨go6, (x5_1 : Int).toNat * 2, none⟩ = false := hfr8 0; have hf8_1 : w13.frozen? ⟨go6, (x5_1 : Int).toNat * 2 + 1, none⟩ = false := hfr8 1; clear hcl8 hcc8 hfr8 hM8; replace p8 := eq_true p8; replace q8 := eq_true q8; have HX14 := am_ (show Kd.R k104 104 w13 w0.heap.size (fun k_ => (P0_ k_ ∨ w.heap.size ≤ k_)) (.slice (some ⟨go6, 0, none⟩) x0_1.length co9) y1002 from (ro_ HO_0)); obtain ⟨ce14, hcl14, hM14, hcc14, hfr14⟩ := Kd.R_elem HX14.out z104 (x5_1 : Int) (od_) (by have h_ : (x5_1 : Int) < ((x0_1.length : Int) : Int) := od_; first | exact h_ | (have e_ := (Kd.R_reads' HO_0.out).1; omega) | simpa using h_); obtain rfl := k104_openM hM14; have HP14 := Kd.R_seg HX14.out (x5_1 : Int) (od_) (by have h_ : (x5_1 : Int) < ((x0_1.length : Int) : Int) := od_; first | exact h_ | (have e_ := (Kd.R_reads' HO_0.out).1; omega) | simpa using h_) (seg := [.string t1003]) (j := 1) hcl14 hcc14 (show 2 ≤ 2 from by decide) (x' := (⟨(rd_T104 y1002 x5_1).f0, t1003⟩ : S104)) (k104_mkM _ _ _ (⟨(rd_T104 y1002 x5_1).f0, t1003⟩ : S104) ) (fun _ hk => hk); have hx14_1 := hcc14 1 _ rfl; (try simp only [show (k104).sz = 2 from rfl, Nat.mul_one, Nat.add_zero] at hx14_1); have hf14_1 := hfr14 1; (try simp only [show (k104).sz = 2 from rfl, Nat.mul_one, Nat.add_zero] at hf14_1); clear hcl14 hcc14 hfr14 hM14) | ((with_reducible refine gate_store (t := 9) (p := 25) rfl ?_); refine store_event (t := 9) (p := 25) (v := ?vo_w15) (w1 := (w13.setCell ⟨go6, (x5_1 : Int).toNat * 2 + 1, none⟩ (.string t1003))) ?hg ?ho ?hn ?hr ?_; (case ho => rfl); (case hg => rfl); (case hn => rfl); (case hr => first | (go_simp; done) | (go_simp; rfl)); intro w15 hw; have hg : w13.grownBy w15 (some go6) := (by rw [hw]; exact HP14.2); have hp_ : Kd.R k104 104 w15 w0.heap.size (fun k_ => (P0_ k_ ∨ w.heap.size ≤ k_)) (.slice (some ⟨go6, 0, none⟩) x0_1.length co9) y1004 := (by rw [hw, Ny1004.out]; exact HP14.1); clear HP14; have n0_ := am_ (hp_); have n1_ := am_ ((by rw [hw]; exact below_set (HB.out) GB6.out : Below w0.heap.size w0 w15)); have n2_ := am_ (Kept.of_grown (S := (fun k_ => P0_ k_)) hg (by repeat (first | (with_reducible first | exact HK.out | apply Kept.alloc | apply Kept.drewN | apply Kept.drew) | exact HK.out)) (fun k_ e_ => (HO_0.out.1 k_ e_))); clear HO_0; clear HB; clear HK; have HO_0 := n0_; have HB := n1_; have HK := n2_; clear n0_ n1_ n2_; clear hg hw hp_))
     go_roundg k1
     case measure => have := HK1.out; omega
     case rel => exact ⟨(y1004), (wrap64 ((wrap64 (x1_1 + 1)) + 1)), (wrap64 (x5_1 + 1)), rs_, rs_, H', ⟨by have := HK1.out; omega⟩, ⟨ro_ HO_0⟩, ⟨by repeat (first | (with_reducible first | exact HK.out | apply Kept.alloc | apply Kept.drewN | apply Kept.drew) | exact HK.out)⟩, ⟨bl_⟩⟩
    ·rw [if_neg c5] at H
     exact absurd H (by simp)
   ·rw [if_neg c3] at H
    have c3b0 : decide (x5_1 < (x0_1.length : Int)) = false := decide_eq_false c3
    clear c3
    simp only [Option.some.injEq, Prod.mk.injEq] at H
    obtain ⟨rfl, rfl⟩ := H
    obtain ⟨Ao16, co16, eo16⟩ := Kd.R_slice HO_0.out
    subst eo16
    go_wp2
    go_ret
    exact ⟨rf_, by (with_reducible repeat (first | apply Kd.R_alloc | apply Kd.R_drewN | apply Kd.R_drew)); exact HO_0.out, bl_, by repeat (first | (with_reducible first | exact HK.out | apply Kept.alloc | apply Kept.drewN | apply Kept.drew) | exact HK.out)⟩

/-! ### laws_markHead: function 53 -/
set_option maxHeartbeats 4000000 in
theorem laws_markHead_0.calls (A : Option Addr) (c : Nat) (a1 : Int) (w : World) :
  Calls Try.prog 104 #[.slice A 0 c, .int .i64 a1] w fun e w' => e = .returned (.int .i64 a1) ∧ Below w.heap.size w w' := by
 have HB := am_ (Below.refl w.heap.size w)
 go_enter Try.func104, Try.ntmps104
 go_wp2
 go_loopg [1, 5] 0 (fun kq v1 v5 w' => v1 = .int .i64 a1 ∧ v5 = .int .i64 0 ∧ Aside0 (Below w.heap.size w w'))
 case atStart => exact ⟨rs_, rs_, ⟨bl_⟩⟩
 case round =>
  obtain ⟨rfl, rfl, HB⟩ := hrel
  go_wp2
  go_ret
  exact ⟨rf_, bl_⟩
def laws_markHead.f (a0_0 a0_1 a0_2 : Int) (l0_3 : List (S142)) (a1 : Int) : Option (Int) := if l0_3.length = 0 then some a1 else none
set_option maxHeartbeats 4000000 in
theorem laws_markHead.calls (a0_0 : Int) (a0_1 : Int) (a0_2 : Int) (A0_3 : Option Addr) (c0_3 : Nat) (l0_3 : List (S142)) (a1 : Int) (r : Int) (w : World) (hr0_3 : Kd.C k142 w A0_3 l0_3.length l0_3) (hc0_3 : l0_3.length ≤ c0_3) (h : laws_markHead.f a0_0 a0_1 a0_2 l0_3 a1 = some r) :
  Calls Try.prog 53 #[.agg #[.int .i64 a0_0, .int .i64 a0_1, .int .i64 a0_2, .slice A0_3 l0_3.length c0_3], .int .i64 a1] w fun e w' => e = .returned (.int .i64 r) ∧ Below w.heap.size w w' := by
 unfold laws_markHead.f at h
 split at h
 ·rename_i hl
  obtain rfl := Option.some.inj h
  rw [hl]
  have hu := Try.underlying67
  have HB := am_ (Below.refl w.heap.size w)
  go_enter Try.func53, Try.ntmps53
  go_wp2_with (first | ((with_reducible refine gate_dst (N := 2) rfl ?_); refine box_event ?hg (N := 2) ?hd (cs := #[.int .i64 a0_0, .int .i64 a0_1, .int .i64 a0_2, .slice A0_3 0 c0_3]) (t := 67) ?hr ?_; (case hd => rfl); (case hg => rfl); (case hr => first | (go_simp; done) | (go_simp; rfl)); intro gb hg w8 hbox hb; have n1_ := am_ (below_step bl_ hb); have BK := am_ hbox; clear HB; have HB := n1_; clear n1_ hb hbox hg; have hcz1_0 := bc4_0 BK; have hcz1_1 := bc4_1 BK; have hcz1_2 := bc4_2 BK; have hcz1_3 := bc4_3 BK; have hfz1_3 := bf_ BK 3) | (go_at_call 104; refine (laws_markHead_0.calls A0_3 c0_3 a1 w8).mono ?_; rintro e w9 ⟨rfl, hb⟩; have n1_ := am_ (below_step HB.out hb); clear HB; have HB := n1_; clear n1_ hb))
  go_ret
  exact ⟨rf_, bl_⟩
 ·cases h

/-! ### laws_heldLabelS: function 134 -/
def laws_heldLabelS.l0 : Nat → List (S104) → Int → Int → Option (Int)
 | 0, _, _, _ => none
 | k + 1, x0, x1, x5 => if x5 < (x0.length : Int) then (if 0 ≤ x5 then ((laws_markText.f k x1).bind fun t1002 => (if ((rd_T104 x0 x5).f0).toList = t1002.toList then ((laws_markText.f k (wrap64 (x1 + 1))).bind fun t1004 => (if ((rd_T104 x0 x5).f1).toList = t1004.toList then (laws_heldLabelS.l0 k x0 (wrap64 ((wrap64 (x1 + 1)) + 1)) (wrap64 (x5 + 1))) else (some (-1)))) else (some (-1)))) else (none)) else (some x1)
def laws_heldLabelS.f (k : Nat) (l0 : List (S104)) (a1 : Int) : Option (Int) := laws_heldLabelS.l0 k l0 a1 0
theorem laws_heldLabelS.mono_l : ∀ k, (∀ y0 y1 y2, LeO (laws_heldLabelS.l0 k y0 y1 y2) (laws_heldLabelS.l0 (k + 1) y0 y1 y2))
 | 0 => fun _ _ _ r h => by simp [laws_heldLabelS.l0] at h
 | k + 1 => by
  have ih0 := laws_heldLabelS.mono_l k
  ·intro y0 y1 y2
   unfold laws_heldLabelS.l0
   repeat' first
   | with_reducible first | exact ih0 _ _ _ | exact laws_markText.mono _ _ | exact LeO.refl _ | exact LeO.none _ | refine LeO.ite ?_ ?_ | refine LeO.bind ?_ (fun _ => ?_)
   | exact ih0 _ _ _
   | exact laws_markText.mono _ _
   | exact LeO.none _
   | refine LeO.ite ?_ ?_
   | refine LeO.bind ?_ (fun _ => ?_)
theorem laws_heldLabelS.mono : ∀ a0 a1 k, LeO (laws_heldLabelS.f k a0 a1) (laws_heldLabelS.f (k + 1) a0 a1) := by
 intro a0 a1 k
 have ih0 := laws_heldLabelS.mono_l k
 unfold laws_heldLabelS.f
 repeat' first
   | with_reducible first | exact ih0 _ _ _ | exact laws_markText.mono _ _ | exact LeO.refl _ | exact LeO.none _ | refine LeO.ite ?_ ?_ | refine LeO.bind ?_ (fun _ => ?_)
   | exact ih0 _ _ _
   | exact laws_markText.mono _ _
   | exact LeO.none _
   | refine LeO.ite ?_ ?_
   | refine LeO.bind ?_ (fun _ => ?_)
def laws_heldLabelS.T4 : Bool × List (List Nat × List Nat) := (true, [([], []), ([], []), ([0, 1], [0, 1]), ([2], [2]), ([3], [3]), ([], []), ([5], [5]), ([4, 6], [4, 6])])
def laws_heldLabelS.B4 : List Nat := [0, 0, 3, 7, 15, 0, 32, 127]
theorem laws_heldLabelS.tab4 : rtab .any (opsOf Try.f134 4) = laws_heldLabelS.T4 := by kernel_rfl
theorem laws_heldLabelS.bits4 : waitsOk laws_heldLabelS.T4.2 laws_heldLabelS.B4 = true := by kernel_rfl
def laws_heldLabelS.T7 : Bool × List (List Nat × List Nat) := (true, [([], []), ([], []), ([0, 1], [0, 1]), ([2], [2]), ([3], [3]), ([], []), ([5], [5]), ([4, 6], [4, 6])])
def laws_heldLabelS.B7 : List Nat := [0, 0, 3, 7, 15, 0, 32, 127]
theorem laws_heldLabelS.tab7 : rtab .any (opsOf Try.f134 7) = laws_heldLabelS.T7 := by kernel_rfl
theorem laws_heldLabelS.bits7 : waitsOk laws_heldLabelS.T7.2 laws_heldLabelS.B7 = true := by kernel_rfl
set_option maxHeartbeats 8000000 in
set_option maxRecDepth 100000 in
theorem laws_heldLabelS.calls (k : Nat) (A0 : Option Addr) (c0 : Nat) (l0 : List (S104)) (a1 : Int) (r : Int) (w : World) (hr0 : Kd.C k104 w A0 l0.length l0) (hc0 : l0.length ≤ c0) (h : laws_heldLabelS.f k l0 a1 = some r) :
  Calls Try.prog 134 #[.slice A0 l0.length c0, .int .i64 a1] w fun e w' => e = .returned (.int .i64 r) ∧ Below w.heap.size w w' := by
 have HR0 := am_ hr0
 have HC0 := am_ hc0
 clear hr0 hc0
 have HB := am_ (Below.refl w.heap.size w)
 have H : (laws_heldLabelS.l0 k l0 a1 0) = some r := h
 clear h
 have H' := am_ H
 clear H
 go_enter Try.func134, Try.ntmps134
 go_wp2
 go_loopg [1, 5] k (fun kq v1 v5 w' => ∃ (x1_1 : Int) (x5_1 : Int), v1 = .int .i64 x1_1 ∧ v5 = .int .i64 x5_1 ∧ Aside0 (laws_heldLabelS.l0 kq l0 x1_1 x5_1 = some r) ∧ Aside0 (kq ≤ k) ∧ Aside0 (Below w.heap.size w w'))
 case atStart => exact ⟨(a1), (0), rs_, rs_, H', ⟨Nat.le_refl _⟩, ⟨bl_⟩⟩
 case round =>
  clear H'
  try clear c1
  try clear p2
  obtain ⟨x1_1, x5_1, rfl, rfl, HA, HK1, HB⟩ := hrel
  cases gk with
  | zero => exact absurd HA.out (by simp [laws_heldLabelS.l0])
  | succ k1 =>
   have H := HA.out
   clear HA
   simp only [laws_heldLabelS.l0] at H
   by_cases c3 : x5_1 < (l0.length : Int)
   ·rw [if_pos c3] at H
    have c3b0 : decide (x5_1 < (l0.length : Int)) = true := decide_eq_true c3
    clear c3
    by_cases c4 : 0 ≤ x5_1
    ·rw [if_pos c4] at H
     have c4b0 : decide (0 ≤ x5_1) = true := decide_eq_true c4
     clear c4
     replace H := Option.bind_eq_some_iff.mp H
     obtain ⟨t1002, A50, H⟩ := H
     replace H : (if ((rd_T104 l0 x5_1).f0).toList = t1002.toList then ((laws_markText.f k1 (wrap64 (x1_1 + 1))).bind fun t1004 => (if ((rd_T104 l0 x5_1).f1).toList = t1004.toList then (laws_heldLabelS.l0 k1 l0 (wrap64 ((wrap64 (x1_1 + 1)) + 1)) (wrap64 (x5_1 + 1))) else (some (-1)))) else (some (-1))) = some r := H
     have A5 := am_ A50
     clear A50
     by_cases c6 : ((rd_T104 l0 x5_1).f0).toList = t1002.toList
     ·rw [if_pos c6] at H
      have c6b0 : (((rd_T104 l0 x5_1).f0).toList == t1002.toList) = true := beq_iff_eq.mpr c6
      have c6b1 : (((rd_T104 l0 x5_1).f0).toList != t1002.toList) = false := bne_eq_false_iff_eq.mpr c6
      clear c6
      replace H := Option.bind_eq_some_iff.mp H
      obtain ⟨t1004, A70, H⟩ := H
      replace H : (if ((rd_T104 l0 x5_1).f1).toList = t1004.toList then (laws_heldLabelS.l0 k1 l0 (wrap64 ((wrap64 (x1_1 + 1)) + 1)) (wrap64 (x5_1 + 1))) else (some (-1))) = some r := H
      have A7 := am_ A70
      clear A70
      by_cases c8 : ((rd_T104 l0 x5_1).f1).toList = t1004.toList
      ·rw [if_pos c8] at H
       have c8b0 : (((rd_T104 l0 x5_1).f1).toList == t1004.toList) = true := beq_iff_eq.mpr c8
       have c8b1 : (((rd_T104 l0 x5_1).f1).toList != t1004.toList) = false := bne_eq_false_iff_eq.mpr c8
       clear c8
       have H' := am_ H
       clear H
       try go_wp2
       have n0_ := am_ (below_drew1 HB.out)
       clear HB
       have HB := n0_
       clear n0_
       have p1001 : 0 ≤ (x5_1 : Int) := od_
       have q1001 : x5_1 < (l0.length : Int) := od_
       obtain ⟨ad1001, e1001, hx1001_0, hx1001_1⟩ := at_T104 HR0.out x5_1 p1001 q1001
       have hw1001_1 := hx1001_1
       have hw1001_0 := hx1001_0
       cases e1001
       replace hx1001_0 := kp_ HB hx1001_0
       replace hx1001_1 := kp_ HB hx1001_1
       replace p1001 := eq_true p1001
       replace q1001 := eq_true q1001
       refine start_ (n := 8) (S := fun w' => w'.cell? (ad1001.add ((x5_1).toNat * 2)) = some (.string ((rd_T104 l0 x5_1).f0)) ∧ w'.cell? ⟨(ad1001.add ((x5_1).toNat * 2)).block, (ad1001.add ((x5_1).toNat * 2)).off + 1, none⟩ = some (.string ((rd_T104 l0 x5_1).f1))) (ds := []) (bz 8 0) (by kernel_rfl) rfl rfl ⟨(kp_ HB hw1001_0 :), (kp_ HB hw1001_1 :)⟩ (fun hHeld => ?_); refine with_tabW laws_heldLabelS.tab4 laws_heldLabelS.bits4 (fun HT_ HW_ => ?_)
       generalize wr.drew = w9 at HB hx1001_0 hx1001_1 hHeld ⊢
       refine pz_ 0 12 1 ?_
       refine pz_ 1 13 3 ?_
       refine pz_ 2 14 7 ?_
       refine pz_ 3 15 15 ?_
       refine pz_ 5 17 47 ?_
       refine tz_ 4 16 63 ?_
       refine one_ (i := 6) (N := some 18) (bz 8 127) rfl rfl (one_of HT_.out (by kernel_rfl)) (by decide) (fun K hK => ?_)
       refine goes_ Try.func144 (by kernel_rfl) rfl #[.int .i64 x1_1] (by rfl) rfl rfl ag_ ?_
       with_reducible refine (laws_markText.calls k1 x1_1 t1002 _ A5.out).mono ?_
       rintro e w10 ⟨rfl, hb⟩
       refine ⟨_, rfl, ?_⟩
       have n0_ := am_ (below_step bl_ hb)
       clear HB
       have HB := n0_
       clear n0_
       (try clear hb)
       (try clear hb2)
       (try clear hk)
       (try clear hi)
       refine hK.out _ _ ⟨(kp_ HB hw1001_0 :), (kp_ HB hw1001_1 :)⟩ (fun hHeld => ?_)
       clear hK K
       refine norm_ (a' := ?_) ?_ ?_
       rotate_left
       ·show Act.put _ (some 18) _ = _
        simp only [Act.put, List.setIfInBounds_toArray, List.set_cons_zero, List.set_cons_succ, i64_w, i32_w]
        rfl
       refine pz_ 7 19 255 ?_
       refine done_ (done_of HT_.out (by kernel_rfl)) ?_
       try go_wp2
       have n0_ := am_ (below_drew1 HB.out)
       clear HB
       have HB := n0_
       clear n0_
       have p1003 : 0 ≤ (x5_1 : Int) := od_
       have q1003 : x5_1 < (l0.length : Int) := od_
       obtain ⟨ad1003, e1003, hx1003_0, hx1003_1⟩ := at_T104 HR0.out x5_1 p1003 q1003
       have hw1003_1 := hx1003_1
       have hw1003_0 := hx1003_0
       obtain rfl : ad1001 = ad1003 := (by injection e1003)
       replace hx1003_0 := kp_ HB hx1003_0
       replace hx1003_1 := kp_ HB hx1003_1
       replace p1003 := eq_true p1003
       replace q1003 := eq_true q1003
       refine start_ (n := 8) (S := fun w' => w'.cell? (ad1001.add ((x5_1).toNat * 2)) = some (.string ((rd_T104 l0 x5_1).f0)) ∧ w'.cell? ⟨(ad1001.add ((x5_1).toNat * 2)).block, (ad1001.add ((x5_1).toNat * 2)).off + 1, none⟩ = some (.string ((rd_T104 l0 x5_1).f1))) (ds := []) (bz 8 0) (by kernel_rfl) rfl rfl ⟨(kp_ HB hw1003_0 :), (kp_ HB hw1003_1 :)⟩ (fun hHeld => ?_); refine with_tabW laws_heldLabelS.tab7 laws_heldLabelS.bits7 (fun HT_ HW_ => ?_)
       generalize w10.drew = w11 at HB hx1003_0 hx1003_1 hHeld ⊢
       refine pz_ 0 22 1 ?_
       refine pz_ 1 23 3 ?_
       refine pz_ 2 24 7 ?_
       refine pz_ 3 25 15 ?_
       refine pz_ 5 27 47 ?_
       refine tz_ 4 26 63 ?_
       refine one_ (i := 6) (N := some 28) (bz 8 127) rfl rfl (one_of HT_.out (by kernel_rfl)) (by decide) (fun K hK => ?_)
       refine goes_ Try.func144 (by kernel_rfl) rfl #[.int .i64 (wrap64 (x1_1 + 1))] (by rfl) rfl rfl ag_ ?_
       with_reducible refine (laws_markText.calls k1 (wrap64 (x1_1 + 1)) t1004 _ A7.out).mono ?_
       rintro e w12 ⟨rfl, hb⟩
       refine ⟨_, rfl, ?_⟩
       have n0_ := am_ (below_step bl_ hb)
       clear HB
       have HB := n0_
       clear n0_
       (try clear hb)
       (try clear hb2)
       (try clear hk)
       (try clear hi)
       refine hK.out _ _ ⟨(kp_ HB hw1003_0 :), (kp_ HB hw1003_1 :)⟩ (fun hHeld => ?_)
       clear hK K
       refine norm_ (a' := ?_) ?_ ?_
       rotate_left
       ·show Act.put _ (some 28) _ = _
        simp only [Act.put, List.setIfInBounds_toArray, List.set_cons_zero, List.set_cons_succ, i64_w, i32_w]
        rfl
       refine pz_ 7 29 255 ?_
       refine done_ (done_of HT_.out (by kernel_rfl)) ?_
       try go_wp2
       go_roundg k1
       case measure => have := HK1.out; omega
       case rel => exact ⟨(wrap64 ((wrap64 (x1_1 + 1)) + 1)), (wrap64 (x5_1 + 1)), rs_, rs_, H', ⟨by have := HK1.out; omega⟩, ⟨bl_⟩⟩
      ·rw [if_neg c8] at H
       have c8b0 : (((rd_T104 l0 x5_1).f1).toList == t1004.toList) = false := beq_eq_false_iff_ne.mpr c8
       have c8b1 : (((rd_T104 l0 x5_1).f1).toList != t1004.toList) = true := bne_iff_ne.mpr c8
       obtain rfl := Option.some.inj H
       try go_wp2
       have n0_ := am_ (below_drew1 HB.out)
       clear HB
       have HB := n0_
       clear n0_
       have p1001 : 0 ≤ (x5_1 : Int) := od_
       have q1001 : x5_1 < (l0.length : Int) := od_
       obtain ⟨ad1001, e1001, hx1001_0, hx1001_1⟩ := at_T104 HR0.out x5_1 p1001 q1001
       have hw1001_1 := hx1001_1
       have hw1001_0 := hx1001_0
       cases e1001
       replace hx1001_0 := kp_ HB hx1001_0
       replace hx1001_1 := kp_ HB hx1001_1
       replace p1001 := eq_true p1001
       replace q1001 := eq_true q1001
       refine start_ (n := 8) (S := fun w' => w'.cell? (ad1001.add ((x5_1).toNat * 2)) = some (.string ((rd_T104 l0 x5_1).f0)) ∧ w'.cell? ⟨(ad1001.add ((x5_1).toNat * 2)).block, (ad1001.add ((x5_1).toNat * 2)).off + 1, none⟩ = some (.string ((rd_T104 l0 x5_1).f1))) (ds := []) (bz 8 0) (by kernel_rfl) rfl rfl ⟨(kp_ HB hw1001_0 :), (kp_ HB hw1001_1 :)⟩ (fun hHeld => ?_); refine with_tabW laws_heldLabelS.tab4 laws_heldLabelS.bits4 (fun HT_ HW_ => ?_)
       generalize wr.drew = w13 at HB hx1001_0 hx1001_1 hHeld ⊢
       refine pz_ 0 12 1 ?_
       refine pz_ 1 13 3 ?_
       refine pz_ 2 14 7 ?_
       refine pz_ 3 15 15 ?_
       refine pz_ 5 17 47 ?_
       refine tz_ 4 16 63 ?_
       refine one_ (i := 6) (N := some 18) (bz 8 127) rfl rfl (one_of HT_.out (by kernel_rfl)) (by decide) (fun K hK => ?_)
       refine goes_ Try.func144 (by kernel_rfl) rfl #[.int .i64 x1_1] (by rfl) rfl rfl ag_ ?_
       with_reducible refine (laws_markText.calls k1 x1_1 t1002 _ A5.out).mono ?_
       rintro e w14 ⟨rfl, hb⟩
       refine ⟨_, rfl, ?_⟩
       have n0_ := am_ (below_step bl_ hb)
       clear HB
       have HB := n0_
       clear n0_
       (try clear hb)
       (try clear hb2)
       (try clear hk)
       (try clear hi)
       refine hK.out _ _ ⟨(kp_ HB hw1001_0 :), (kp_ HB hw1001_1 :)⟩ (fun hHeld => ?_)
       clear hK K
       refine norm_ (a' := ?_) ?_ ?_
       rotate_left
       ·show Act.put _ (some 18) _ = _
        simp only [Act.put, List.setIfInBounds_toArray, List.set_cons_zero, List.set_cons_succ, i64_w, i32_w]
        rfl
       refine pz_ 7 19 255 ?_
       refine done_ (done_of HT_.out (by kernel_rfl)) ?_
       try go_wp2
       have n0_ := am_ (below_drew1 HB.out)
       clear HB
       have HB := n0_
       clear n0_
       have p1003 : 0 ≤ (x5_1 : Int) := od_
       have q1003 : x5_1 < (l0.length : Int) := od_
       obtain ⟨ad1003, e1003, hx1003_0, hx1003_1⟩ := at_T104 HR0.out x5_1 p1003 q1003
       have hw1003_1 := hx1003_1
       have hw1003_0 := hx1003_0
       obtain rfl : ad1001 = ad1003 := (by injection e1003)
       replace hx1003_0 := kp_ HB hx1003_0
       replace hx1003_1 := kp_ HB hx1003_1
       replace p1003 := eq_true p1003
       replace q1003 := eq_true q1003
       refine start_ (n := 8) (S := fun w' => w'.cell? (ad1001.add ((x5_1).toNat * 2)) = some (.string ((rd_T104 l0 x5_1).f0)) ∧ w'.cell? ⟨(ad1001.add ((x5_1).toNat * 2)).block, (ad1001.add ((x5_1).toNat * 2)).off + 1, none⟩ = some (.string ((rd_T104 l0 x5_1).f1))) (ds := []) (bz 8 0) (by kernel_rfl) rfl rfl ⟨(kp_ HB hw1003_0 :), (kp_ HB hw1003_1 :)⟩ (fun hHeld => ?_); refine with_tabW laws_heldLabelS.tab7 laws_heldLabelS.bits7 (fun HT_ HW_ => ?_)
       generalize w14.drew = w15 at HB hx1003_0 hx1003_1 hHeld ⊢
       refine pz_ 0 22 1 ?_
       refine pz_ 1 23 3 ?_
       refine pz_ 2 24 7 ?_
       refine pz_ 3 25 15 ?_
       refine pz_ 5 27 47 ?_
       refine tz_ 4 26 63 ?_
       refine one_ (i := 6) (N := some 28) (bz 8 127) rfl rfl (one_of HT_.out (by kernel_rfl)) (by decide) (fun K hK => ?_)
       refine goes_ Try.func144 (by kernel_rfl) rfl #[.int .i64 (wrap64 (x1_1 + 1))] (by rfl) rfl rfl ag_ ?_
       with_reducible refine (laws_markText.calls k1 (wrap64 (x1_1 + 1)) t1004 _ A7.out).mono ?_
       rintro e w16 ⟨rfl, hb⟩
       refine ⟨_, rfl, ?_⟩
       have n0_ := am_ (below_step bl_ hb)
       clear HB
       have HB := n0_
       clear n0_
       (try clear hb)
       (try clear hb2)
       (try clear hk)
       (try clear hi)
       refine hK.out _ _ ⟨(kp_ HB hw1003_0 :), (kp_ HB hw1003_1 :)⟩ (fun hHeld => ?_)
       clear hK K
       refine norm_ (a' := ?_) ?_ ?_
       rotate_left
       ·show Act.put _ (some 28) _ = _
        simp only [Act.put, List.setIfInBounds_toArray, List.set_cons_zero, List.set_cons_succ, i64_w, i32_w]
        rfl
       refine pz_ 7 29 255 ?_
       refine done_ (done_of HT_.out (by kernel_rfl)) ?_
       try go_wp2
       go_ret
       exact ⟨rf_, bl_⟩
     ·rw [if_neg c6] at H
      have c6b0 : (((rd_T104 l0 x5_1).f0).toList == t1002.toList) = false := beq_eq_false_iff_ne.mpr c6
      have c6b1 : (((rd_T104 l0 x5_1).f0).toList != t1002.toList) = true := bne_iff_ne.mpr c6
      obtain rfl := Option.some.inj H
      try go_wp2
      have n0_ := am_ (below_drew1 HB.out)
      clear HB
      have HB := n0_
      clear n0_
      have p1001 : 0 ≤ (x5_1 : Int) := od_
      have q1001 : x5_1 < (l0.length : Int) := od_
      obtain ⟨ad1001, e1001, hx1001_0, hx1001_1⟩ := at_T104 HR0.out x5_1 p1001 q1001
      have hw1001_1 := hx1001_1
      have hw1001_0 := hx1001_0
      cases e1001
      replace hx1001_0 := kp_ HB hx1001_0
      replace hx1001_1 := kp_ HB hx1001_1
      replace p1001 := eq_true p1001
      replace q1001 := eq_true q1001
      refine start_ (n := 8) (S := fun w' => w'.cell? (ad1001.add ((x5_1).toNat * 2)) = some (.string ((rd_T104 l0 x5_1).f0)) ∧ w'.cell? ⟨(ad1001.add ((x5_1).toNat * 2)).block, (ad1001.add ((x5_1).toNat * 2)).off + 1, none⟩ = some (.string ((rd_T104 l0 x5_1).f1))) (ds := []) (bz 8 0) (by kernel_rfl) rfl rfl ⟨(kp_ HB hw1001_0 :), (kp_ HB hw1001_1 :)⟩ (fun hHeld => ?_); refine with_tabW laws_heldLabelS.tab4 laws_heldLabelS.bits4 (fun HT_ HW_ => ?_)
      generalize wr.drew = w17 at HB hx1001_0 hx1001_1 hHeld ⊢
      refine pz_ 0 12 1 ?_
      refine pz_ 1 13 3 ?_
      refine pz_ 2 14 7 ?_
      refine pz_ 3 15 15 ?_
      refine pz_ 5 17 47 ?_
      refine tz_ 4 16 63 ?_
      refine one_ (i := 6) (N := some 18) (bz 8 127) rfl rfl (one_of HT_.out (by kernel_rfl)) (by decide) (fun K hK => ?_)
      refine goes_ Try.func144 (by kernel_rfl) rfl #[.int .i64 x1_1] (by rfl) rfl rfl ag_ ?_
      with_reducible refine (laws_markText.calls k1 x1_1 t1002 _ A5.out).mono ?_
      rintro e w18 ⟨rfl, hb⟩
      refine ⟨_, rfl, ?_⟩
      have n0_ := am_ (below_step bl_ hb)
      clear HB
      have HB := n0_
      clear n0_
      (try clear hb)
      (try clear hb2)
      (try clear hk)
      (try clear hi)
      refine hK.out _ _ ⟨(kp_ HB hw1001_0 :), (kp_ HB hw1001_1 :)⟩ (fun hHeld => ?_)
      clear hK K
      refine norm_ (a' := ?_) ?_ ?_
      rotate_left
      ·show Act.put _ (some 18) _ = _
       simp only [Act.put, List.setIfInBounds_toArray, List.set_cons_zero, List.set_cons_succ, i64_w, i32_w]
       rfl
      refine pz_ 7 19 255 ?_
      refine done_ (done_of HT_.out (by kernel_rfl)) ?_
      try go_wp2
      go_ret
      exact ⟨rf_, bl_⟩
    ·rw [if_neg c4] at H
     exact absurd H (by simp)
   ·rw [if_neg c3] at H
    have c3b0 : decide (x5_1 < (l0.length : Int)) = false := decide_eq_false c3
    clear c3
    obtain rfl := Option.some.inj H
    go_wp2
    go_ret
    exact ⟨rf_, bl_⟩

/-! ### laws_heldSeriesS: function 105 -/
def laws_heldSeriesS.l0 : Nat → List (S142) → Int → Int → Option (Int)
 | 0, _, _, _ => none
 | k + 1, x0, x1, x5 => if x5 < (x0.length : Int) then (if 0 ≤ x5 then ((laws_heldLabelS.f k ((rd_T142 x0 x5).f0) x1).bind fun t1002 => (if t1002 < 0 then (some (-1)) else ((laws_heldSampleS.f k ((rd_T142 x0 x5).f1) t1002).bind fun t1004 => (if t1004 < 0 then (some (-1)) else (laws_heldSeriesS.l0 k x0 t1004 (wrap64 (x5 + 1))))))) else (none)) else (some x1)
def laws_heldSeriesS.f (k : Nat) (l0 : List (S142)) (a1 : Int) : Option (Int) := laws_heldSeriesS.l0 k l0 a1 0
theorem laws_heldSeriesS.mono_l : ∀ k, (∀ y0 y1 y2, LeO (laws_heldSeriesS.l0 k y0 y1 y2) (laws_heldSeriesS.l0 (k + 1) y0 y1 y2))
 | 0 => fun _ _ _ r h => by simp [laws_heldSeriesS.l0] at h
 | k + 1 => by
  have ih0 := laws_heldSeriesS.mono_l k
  ·intro y0 y1 y2
   unfold laws_heldSeriesS.l0
   repeat' first
   | with_reducible first | exact ih0 _ _ _ | exact laws_heldLabelS.mono _ _ _ | exact laws_heldSampleS.mono _ _ _ | exact LeO.refl _ | exact LeO.none _ | refine LeO.ite ?_ ?_ | refine LeO.bind ?_ (fun _ => ?_)
   | exact ih0 _ _ _
   | exact laws_heldLabelS.mono _ _ _
   | exact laws_heldSampleS.mono _ _ _
   | exact LeO.none _
   | refine LeO.ite ?_ ?_
   | refine LeO.bind ?_ (fun _ => ?_)
theorem laws_heldSeriesS.mono : ∀ a0 a1 k, LeO (laws_heldSeriesS.f k a0 a1) (laws_heldSeriesS.f (k + 1) a0 a1) := by
 intro a0 a1 k
 have ih0 := laws_heldSeriesS.mono_l k
 unfold laws_heldSeriesS.f
 repeat' first
   | with_reducible first | exact ih0 _ _ _ | exact laws_heldLabelS.mono _ _ _ | exact laws_heldSampleS.mono _ _ _ | exact LeO.refl _ | exact LeO.none _ | refine LeO.ite ?_ ?_ | refine LeO.bind ?_ (fun _ => ?_)
   | exact ih0 _ _ _
   | exact laws_heldLabelS.mono _ _ _
   | exact laws_heldSampleS.mono _ _ _
   | exact LeO.none _
   | refine LeO.ite ?_ ?_
   | refine LeO.bind ?_ (fun _ => ?_)
set_option maxHeartbeats 8000000 in
set_option maxRecDepth 100000 in
theorem laws_heldSeriesS.calls (k : Nat) (A0 : Option Addr) (c0 : Nat) (l0 : List (S142)) (a1 : Int) (r : Int) (w : World) (hr0 : Kd.C k142 w A0 l0.length l0) (hc0 : l0.length ≤ c0) (h : laws_heldSeriesS.f k l0 a1 = some r) :
  Calls Try.prog 105 #[.slice A0 l0.length c0, .int .i64 a1] w fun e w' => e = .returned (.int .i64 r) ∧ Below w.heap.size w w' := by
 have HR0 := am_ hr0
 have HC0 := am_ hc0
 clear hr0 hc0
 have HB := am_ (Below.refl w.heap.size w)
 have H : (laws_heldSeriesS.l0 k l0 a1 0) = some r := h
 clear h
 have H' := am_ H
 clear H
 go_enter Try.func105, Try.ntmps105
 go_wp2
 go_loopg [1, 5] k (fun kq v1 v5 w' => ∃ (x1_1 : Int) (x5_1 : Int), v1 = .int .i64 x1_1 ∧ v5 = .int .i64 x5_1 ∧ Aside0 (laws_heldSeriesS.l0 kq l0 x1_1 x5_1 = some r) ∧ Aside0 (kq ≤ k) ∧ Aside0 (Below w.heap.size w w'))
 case atStart => exact ⟨(a1), (0), rs_, rs_, H', ⟨Nat.le_refl _⟩, ⟨bl_⟩⟩
 case round =>
  clear H'
  try clear c1
  try clear p2
  obtain ⟨x1_1, x5_1, rfl, rfl, HA, HK1, HB⟩ := hrel
  cases gk with
  | zero => exact absurd HA.out (by simp [laws_heldSeriesS.l0])
  | succ k1 =>
   have H := HA.out
   clear HA
   simp only [laws_heldSeriesS.l0] at H
   by_cases c3 : x5_1 < (l0.length : Int)
   ·rw [if_pos c3] at H
    have c3b0 : decide (x5_1 < (l0.length : Int)) = true := decide_eq_true c3
    clear c3
    by_cases c4 : 0 ≤ x5_1
    ·rw [if_pos c4] at H
     have c4b0 : decide (0 ≤ x5_1) = true := decide_eq_true c4
     clear c4
     replace H := Option.bind_eq_some_iff.mp H
     obtain ⟨t1002, A50, H⟩ := H
     replace H : (if t1002 < 0 then (some (-1)) else ((laws_heldSampleS.f k1 ((rd_T142 l0 x5_1).f1) t1002).bind fun t1004 => (if t1004 < 0 then (some (-1)) else (laws_heldSeriesS.l0 k1 l0 t1004 (wrap64 (x5_1 + 1)))))) = some r := H
     have A5 := am_ A50
     clear A50
     by_cases c6 : t1002 < 0
     ·rw [if_pos c6] at H
      have c6b0 : decide (t1002 < 0) = true := decide_eq_true c6
      clear c6
      obtain rfl := Option.some.inj H
      have p1001 : 0 ≤ (x5_1 : Int) := od_
      have q1001 : x5_1 < (l0.length : Int) := od_
      obtain ⟨ad1001, A1001_0, c1001_0, A1001_1, c1001_1, e1001, hx1001_0, hx1001_1, hl1001_0, hi1001_0, hl1001_1, hi1001_1⟩ := at_T142 HR0.out x5_1 p1001 q1001
      cases e1001
      replace hx1001_0 := kp_ HB hx1001_0
      replace hx1001_1 := kp_ HB hx1001_1
      have HR1001_0 := am_ hi1001_0
      have HC1001_0 := am_ hl1001_0
      clear hi1001_0 hl1001_0
      have HR1001_1 := am_ hi1001_1
      have HC1001_1 := am_ hl1001_1
      clear hi1001_1 hl1001_1
      replace p1001 := eq_true p1001
      replace q1001 := eq_true q1001
      go_wp2_with (first | ((with_reducible refine gate_callee (f := 134) rfl ?_); refine goesL_ (some 18) rfl rfl Try.func134 (by kernel_rfl) rfl #[.slice A1001_0 ((rd_T142 l0 x5_1).f0).length c1001_0, .int .i64 x1_1] rfl ag_ ?_; (with_reducible refine (laws_heldLabelS.calls k1 _ _ ((rd_T142 l0 x5_1).f0) x1_1 t1002 _ ?side1 ?side2 A5.out).mono ?_); (case side1 => exact cc_ (Kd.C_below HR1001_0.out HB.out)); (case side2 => exact HC1001_0.out); rintro e w7 ⟨rfl, hb⟩; refine ⟨_, rfl, ?_⟩; have n0_ := am_ (below_step bl_ hb); clear HB; have HB := n0_; clear n0_; (try clear hb); (try clear hb2); (try clear hk); (try clear hi)))
      go_ret
      exact ⟨rf_, bl_⟩
     ·rw [if_neg c6] at H
      have c6b0 : decide (t1002 < 0) = false := decide_eq_false c6
      clear c6
      replace H := Option.bind_eq_some_iff.mp H
      obtain ⟨t1004, A80, H⟩ := H
      replace H : (if t1004 < 0 then (some (-1)) else (laws_heldSeriesS.l0 k1 l0 t1004 (wrap64 (x5_1 + 1)))) = some r := H
      have A8 := am_ A80
      clear A80
      by_cases c9 : t1004 < 0
      ·rw [if_pos c9] at H
       have c9b0 : decide (t1004 < 0) = true := decide_eq_true c9
       clear c9
       obtain rfl := Option.some.inj H
       have p1001 : 0 ≤ (x5_1 : Int) := od_
       have q1001 : x5_1 < (l0.length : Int) := od_
       obtain ⟨ad1001, A1001_0, c1001_0, A1001_1, c1001_1, e1001, hx1001_0, hx1001_1, hl1001_0, hi1001_0, hl1001_1, hi1001_1⟩ := at_T142 HR0.out x5_1 p1001 q1001
       cases e1001
       replace hx1001_0 := kp_ HB hx1001_0
       replace hx1001_1 := kp_ HB hx1001_1
       have HR1001_0 := am_ hi1001_0
       have HC1001_0 := am_ hl1001_0
       clear hi1001_0 hl1001_0
       have HR1001_1 := am_ hi1001_1
       have HC1001_1 := am_ hl1001_1
       clear hi1001_1 hl1001_1
       replace p1001 := eq_true p1001
       replace q1001 := eq_true q1001
       go_wp2_with (first | ((with_reducible refine gate_callee (f := 134) rfl ?_); refine goesL_ (some 18) rfl rfl Try.func134 (by kernel_rfl) rfl #[.slice A1001_0 ((rd_T142 l0 x5_1).f0).length c1001_0, .int .i64 x1_1] rfl ag_ ?_; (with_reducible refine (laws_heldLabelS.calls k1 _ _ ((rd_T142 l0 x5_1).f0) x1_1 t1002 _ ?side1 ?side2 A5.out).mono ?_); (case side1 => exact cc_ (Kd.C_below HR1001_0.out HB.out)); (case side2 => exact HC1001_0.out); rintro e w10 ⟨rfl, hb⟩; refine ⟨_, rfl, ?_⟩; have n0_ := am_ (below_step bl_ hb); clear HB; have HB := n0_; clear n0_; (try clear hb); (try clear hb2); (try clear hk); (try clear hi); have p1003 : 0 ≤ (x5_1 : Int) := od_; have q1003 : x5_1 < (l0.length : Int) := od_; obtain ⟨ad1003, A1003_0, c1003_0, A1003_1, c1003_1, e1003, hx1003_0, hx1003_1, hl1003_0, hi1003_0, hl1003_1, hi1003_1⟩ := at_T142 HR0.out x5_1 p1003 q1003; obtain rfl : ad1001 = ad1003 := (by injection e1003); replace hx1003_0 := kp_ HB hx1003_0; replace hx1003_1 := kp_ HB hx1003_1; have HR1003_0 := am_ hi1003_0; have HC1003_0 := am_ hl1003_0; clear hi1003_0 hl1003_0; have HR1003_1 := am_ hi1003_1; have HC1003_1 := am_ hl1003_1; clear hi1003_1 hl1003_1; replace p1003 := eq_true p1003; replace q1003 := eq_true q1003) | ((with_reducible refine gate_callee (f := 33) rfl ?_); refine goesL_ (some 27) rfl rfl Try.func33 (by kernel_rfl) rfl #[.slice A1003_1 ((rd_T142 l0 x5_1).f1).length c1003_1, .int .i64 t1002] rfl ag_ ?_; (with_reducible refine (laws_heldSampleS.calls k1 _ _ ((rd_T142 l0 x5_1).f1) t1002 t1004 _ ?side1 ?side2 A8.out).mono ?_); (case side1 => exact cc_ (Kd.C_below HR1003_1.out HB.out)); (case side2 => exact HC1003_1.out); rintro e w' ⟨rfl, ⟨nd, rfl⟩⟩; refine ⟨_, rfl, ?_⟩))
       go_ret
       exact ⟨rf_, bl_⟩
      ·rw [if_neg c9] at H
       have c9b0 : decide (t1004 < 0) = false := decide_eq_false c9
       clear c9
       have H' := am_ H
       clear H
       have p1001 : 0 ≤ (x5_1 : Int) := od_
       have q1001 : x5_1 < (l0.length : Int) := od_
       obtain ⟨ad1001, A1001_0, c1001_0, A1001_1, c1001_1, e1001, hx1001_0, hx1001_1, hl1001_0, hi1001_0, hl1001_1, hi1001_1⟩ := at_T142 HR0.out x5_1 p1001 q1001
       cases e1001
       replace hx1001_0 := kp_ HB hx1001_0
       replace hx1001_1 := kp_ HB hx1001_1
       have HR1001_0 := am_ hi1001_0
       have HC1001_0 := am_ hl1001_0
       clear hi1001_0 hl1001_0
       have HR1001_1 := am_ hi1001_1
       have HC1001_1 := am_ hl1001_1
       clear hi1001_1 hl1001_1
       replace p1001 := eq_true p1001
       replace q1001 := eq_true q1001
       go_wp2_with (first | ((with_reducible refine gate_callee (f := 134) rfl ?_); refine goesL_ (some 18) rfl rfl Try.func134 (by kernel_rfl) rfl #[.slice A1001_0 ((rd_T142 l0 x5_1).f0).length c1001_0, .int .i64 x1_1] rfl ag_ ?_; (with_reducible refine (laws_heldLabelS.calls k1 _ _ ((rd_T142 l0 x5_1).f0) x1_1 t1002 _ ?side1 ?side2 A5.out).mono ?_); (case side1 => exact cc_ (Kd.C_below HR1001_0.out HB.out)); (case side2 => exact HC1001_0.out); rintro e w11 ⟨rfl, hb⟩; refine ⟨_, rfl, ?_⟩; have n0_ := am_ (below_step bl_ hb); clear HB; have HB := n0_; clear n0_; (try clear hb); (try clear hb2); (try clear hk); (try clear hi); have p1003 : 0 ≤ (x5_1 : Int) := od_; have q1003 : x5_1 < (l0.length : Int) := od_; obtain ⟨ad1003, A1003_0, c1003_0, A1003_1, c1003_1, e1003, hx1003_0, hx1003_1, hl1003_0, hi1003_0, hl1003_1, hi1003_1⟩ := at_T142 HR0.out x5_1 p1003 q1003; obtain rfl : ad1001 = ad1003 := (by injection e1003); replace hx1003_0 := kp_ HB hx1003_0; replace hx1003_1 := kp_ HB hx1003_1; have HR1003_0 := am_ hi1003_0; have HC1003_0 := am_ hl1003_0; clear hi1003_0 hl1003_0; have HR1003_1 := am_ hi1003_1; have HC1003_1 := am_ hl1003_1; clear hi1003_1 hl1003_1; replace p1003 := eq_true p1003; replace q1003 := eq_true q1003) | ((with_reducible refine gate_callee (f := 33) rfl ?_); refine goesL_ (some 27) rfl rfl Try.func33 (by kernel_rfl) rfl #[.slice A1003_1 ((rd_T142 l0 x5_1).f1).length c1003_1, .int .i64 t1002] rfl ag_ ?_; (with_reducible refine (laws_heldSampleS.calls k1 _ _ ((rd_T142 l0 x5_1).f1) t1002 t1004 _ ?side1 ?side2 A8.out).mono ?_); (case side1 => exact cc_ (Kd.C_below HR1003_1.out HB.out)); (case side2 => exact HC1003_1.out); rintro e w' ⟨rfl, ⟨nd, rfl⟩⟩; refine ⟨_, rfl, ?_⟩))
       go_roundg k1
       case measure => have := HK1.out; omega
       case rel => exact ⟨(t1004), (wrap64 (x5_1 + 1)), rs_, rs_, H', ⟨by have := HK1.out; omega⟩, ⟨bl_⟩⟩
    ·rw [if_neg c4] at H
     exact absurd H (by simp)
   ·rw [if_neg c3] at H
    have c3b0 : decide (x5_1 < (l0.length : Int)) = false := decide_eq_false c3
    clear c3
    obtain rfl := Option.some.inj H
    go_wp2
    go_ret
    exact ⟨rf_, bl_⟩

/-! ### laws_heldHead: function 54 -/
def laws_heldHead.f (k : Nat) (a0_0 : Int) (a0_1 : Int) (a0_2 : Int) (l0_3 : List (S142)) (a1 : Int) : Option (Int) := (laws_heldSeriesS.f k l0_3 a1).bind fun t1002 => (if t1002 < 0 then (some (-1)) else (some t1002))
theorem laws_heldHead.mono : ∀ a0 a1 a2 a3 a4 k, LeO (laws_heldHead.f k a0 a1 a2 a3 a4) (laws_heldHead.f (k + 1) a0 a1 a2 a3 a4) := by
 intro a0 a1 a2 a3 a4 k
 unfold laws_heldHead.f
 repeat' first
   | with_reducible first | exact laws_heldSeriesS.mono _ _ _ | exact LeO.refl _ | exact LeO.none _ | refine LeO.ite ?_ ?_ | refine LeO.bind ?_ (fun _ => ?_)
   | exact laws_heldSeriesS.mono _ _ _
   | exact LeO.none _
   | refine LeO.ite ?_ ?_
   | refine LeO.bind ?_ (fun _ => ?_)
set_option maxHeartbeats 8000000 in
set_option maxRecDepth 100000 in
theorem laws_heldHead.calls (k : Nat) (a0_0 : Int) (a0_1 : Int) (a0_2 : Int) (A0_3 : Option Addr) (c0_3 : Nat) (l0_3 : List (S142)) (a1 : Int) (r : Int) (w : World) (hr0_3 : Kd.C k142 w A0_3 l0_3.length l0_3) (hc0_3 : l0_3.length ≤ c0_3) (h : laws_heldHead.f k a0_0 a0_1 a0_2 l0_3 a1 = some r) :
  Calls Try.prog 54 #[.agg #[.int .i64 a0_0, .int .i64 a0_1, .int .i64 a0_2, .slice A0_3 l0_3.length c0_3], .int .i64 a1] w fun e w' => e = .returned (.int .i64 r) ∧ Below w.heap.size w w' := by
 have hu67 := Try.underlying67
 have HR0_3 := am_ hr0_3
 have HC0_3 := am_ hc0_3
 clear hr0_3 hc0_3
 have HB := am_ (Below.refl w.heap.size w)
 have H : ((laws_heldSeriesS.f k l0_3 a1).bind fun t1002 => (if t1002 < 0 then (some (-1)) else (some t1002))) = some r := h
 clear h
 replace H := Option.bind_eq_some_iff.mp H
 obtain ⟨t1002, A30, H⟩ := H
 replace H : (if t1002 < 0 then (some (-1)) else (some t1002)) = some r := H
 have A3 := am_ A30
 clear A30
 by_cases c4 : t1002 < 0
 ·rw [if_pos c4] at H
  have c4b0 : decide (t1002 < 0) = true := decide_eq_true c4
  clear c4
  obtain rfl := Option.some.inj H
  go_enter Try.func54, Try.ntmps54
  go_wp2_with (first | ((with_reducible refine gate_dst (N := 2) rfl ?_); refine box_event ?hg (N := 2) ?hd (cs := #[.int .i64 a0_0, .int .i64 a0_1, .int .i64 a0_2, .slice A0_3 l0_3.length c0_3]) (t := 67) ?hr ?_; (case hd => rfl); (case hg => rfl); (case hr => first | (go_simp; done) | (go_simp; rfl)); intro gb1001 hg w5 hbox hb; have n0_ := am_ (below_step bl_ hb); have n1_ := am_ (hbox); have n2_ := am_ (gs_ hg : w.heap.size ≤ gb1001); have n3_ := n2_; clear HB; have HB := n0_; have BK1001 := n1_; have GW1001 := n2_; have GE1001 := n3_; clear n0_ n1_ n2_ n3_; clear hb hbox hg; have hcz6_0 := bc4_0 BK1001; have hcz6_1 := bc4_1 BK1001; have hcz6_2 := bc4_2 BK1001; have hcz6_3 := bc4_3 BK1001; have hfz6_0 := bf_ BK1001 0; have hfz6_1 := bf_ BK1001 1; have hfz6_2 := bf_ BK1001 2; have hfz6_3 := bf_ BK1001 3) | ((with_reducible refine gate_callee (f := 105) rfl ?_); refine goesL_ (some 8) rfl rfl Try.func105 (by kernel_rfl) rfl #[.slice A0_3 l0_3.length c0_3, .int .i64 a1] rfl ag_ ?_; (with_reducible refine (laws_heldSeriesS.calls k _ _ l0_3 a1 t1002 _ ?side1 ?side2 A3.out).mono ?_); (case side1 => exact cc_ (Kd.C_below HR0_3.out HB.out)); (case side2 => exact HC0_3.out); rintro e w7 ⟨rfl, hb⟩; refine ⟨_, rfl, ?_⟩; have n0_ := am_ (blk_below (g := gb1001) (vk_ BK1001) hb); have n1_ := am_ (below_step bg_ hb); clear BK1001; clear HB; have BK1001 := n0_; have HB := n1_; clear n0_ n1_; (try clear hb); (try clear hb2); (try clear hk); (try clear hi)))
  go_ret
  exact ⟨rf_, bg_⟩
 ·rw [if_neg c4] at H
  have c4b0 : decide (t1002 < 0) = false := decide_eq_false c4
  clear c4
  obtain rfl := Option.some.inj H
  go_enter Try.func54, Try.ntmps54
  go_wp2_with (first | ((with_reducible refine gate_dst (N := 2) rfl ?_); refine box_event ?hg (N := 2) ?hd (cs := #[.int .i64 a0_0, .int .i64 a0_1, .int .i64 a0_2, .slice A0_3 l0_3.length c0_3]) (t := 67) ?hr ?_; (case hd => rfl); (case hg => rfl); (case hr => first | (go_simp; done) | (go_simp; rfl)); intro gb1001 hg w8 hbox hb; have n0_ := am_ (below_step bl_ hb); have n1_ := am_ (hbox); have n2_ := am_ (gs_ hg : w.heap.size ≤ gb1001); have n3_ := n2_; clear HB; have HB := n0_; have BK1001 := n1_; have GW1001 := n2_; have GE1001 := n3_; clear n0_ n1_ n2_ n3_; clear hb hbox hg; have hcz9_0 := bc4_0 BK1001; have hcz9_1 := bc4_1 BK1001; have hcz9_2 := bc4_2 BK1001; have hcz9_3 := bc4_3 BK1001; have hfz9_0 := bf_ BK1001 0; have hfz9_1 := bf_ BK1001 1; have hfz9_2 := bf_ BK1001 2; have hfz9_3 := bf_ BK1001 3) | ((with_reducible refine gate_callee (f := 105) rfl ?_); refine goesL_ (some 8) rfl rfl Try.func105 (by kernel_rfl) rfl #[.slice A0_3 l0_3.length c0_3, .int .i64 a1] rfl ag_ ?_; (with_reducible refine (laws_heldSeriesS.calls k _ _ l0_3 a1 t1002 _ ?side1 ?side2 A3.out).mono ?_); (case side1 => exact cc_ (Kd.C_below HR0_3.out HB.out)); (case side2 => exact HC0_3.out); rintro e w10 ⟨rfl, hb⟩; refine ⟨_, rfl, ?_⟩; have n0_ := am_ (blk_below (g := gb1001) (vk_ BK1001) hb); have n1_ := am_ (below_step bg_ hb); clear BK1001; clear HB; have BK1001 := n0_; have HB := n1_; clear n0_ n1_; (try clear hb); (try clear hb2); (try clear hk); (try clear hi)))
  go_ret
  exact ⟨rf_, bg_⟩

end Go.Proofs.Ytjapdjkckhcelaa.Pr
