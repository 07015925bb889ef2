/- Functions of the given program as plain Lean functions, and that the machine's calls come to them; written by a program of this session; no condition but those that each theorem states. -/
import Derived.Test.YtjapdjkckhcelaaPrx0
import Derived.Test.YtjapdjkckhcelaaPrxg12584n1
import Derived.Test.YtjapdjkckhcelaaPrxg1cf53n1
import Derived.Test.YtjapdjkckhcelaaPrxg6aea3n1
namespace Go.Proofs.Ytjapdjkckhcelaa.Pr
open Go.RowKit Go.Proofs.YtjapdjkckhcelaaW.PrintWords Go.Proofs.YtjapdjkckhcelaaW.PrintLast Go.Proofs.YtjapdjkckhcelaaW.PrintMore
attribute [local go_sem] max2_int min2_int max_two min_two max_three min_three max_four min_four   -- for this text's walks alone
set_option linter.unusedVariables false
set_option linter.unusedSimpArgs false

/-! ### spec_l6At: function 74 -/
def spec_l6At.f (k : Nat) (l0 : List (S37)) (a1 : Int) (a2 : Int) : Option (Int × Int × Bool) := (spec_l6Cut.f k l0 0 a1).bind fun t1002 => (if (t1002.length : Int) = 0 then (some (0, 0, false)) else (if 0 ≤ (wrap64 ((t1002.length : Int) - 1)) then (if (wrap64 ((t1002.length : Int) - 1)) < (t1002.length : Int) then (if ((rd_T37 t1002 (wrap64 ((t1002.length : Int) - 1))).f0) < (wrap64 (a1 - a2)) then (some (0, 0, false)) else (if ((rd_T37 t1002 (wrap64 ((t1002.length : Int) - 1))).f1) = (-9223372036854775808) then (some (0, 0, false)) else (some ((rd_T37 t1002 (wrap64 ((t1002.length : Int) - 1))).f0, (rd_T37 t1002 (wrap64 ((t1002.length : Int) - 1))).f1, true)))) else (none)) else (none)))
theorem spec_l6At.mono : ∀ a0 a1 a2 k, LeO (spec_l6At.f k a0 a1 a2) (spec_l6At.f (k + 1) a0 a1 a2) := by
 intro a0 a1 a2 k
 unfold spec_l6At.f
 repeat' first
   | with_reducible first | exact spec_l6Cut.mono _ _ _ _ | exact LeO.refl _ | exact LeO.none _ | refine LeO.ite ?_ ?_ | refine LeO.bind ?_ (fun _ => ?_)
   | exact spec_l6Cut.mono _ _ _ _
   | exact LeO.none _
   | refine LeO.ite ?_ ?_
   | refine LeO.bind ?_ (fun _ => ?_)
set_option maxHeartbeats 8000000 in
set_option maxRecDepth 100000 in
theorem spec_l6At.calls (k : Nat) (A0 : Option Addr) (c0 : Nat) (l0 : List (S37)) (a1 : Int) (a2 : Int) (r1 : Int) (r2 : Int) (r3 : Bool) (w : World) (hr0 : Kd.C k37 w A0 l0.length l0) (hc0 : l0.length ≤ c0) (h : spec_l6At.f k l0 a1 a2 = some (r1, r2, r3)) :
  Calls Try.prog 74 #[.slice A0 l0.length c0, .int .i64 a1, .int .i64 a2] w fun e w' => e = .returned (.tuple #[.agg #[.int .i64 r1, .int .i64 r2], .bool r3]) ∧ Below w.heap.size w w' := by
 have hu37 := Try.underlying37
 have HR0 := am_ hr0
 have HC0 := am_ hc0
 clear hr0 hc0
 have HB := am_ (Below.refl w.heap.size w)
 have H : ((spec_l6Cut.f k l0 0 a1).bind fun t1002 => (if (t1002.length : Int) = 0 then (some (0, 0, false)) else (if 0 ≤ (wrap64 ((t1002.length : Int) - 1)) then (if (wrap64 ((t1002.length : Int) - 1)) < (t1002.length : Int) then (if ((rd_T37 t1002 (wrap64 ((t1002.length : Int) - 1))).f0) < (wrap64 (a1 - a2)) then (some (0, 0, false)) else (if ((rd_T37 t1002 (wrap64 ((t1002.length : Int) - 1))).f1) = (-9223372036854775808) then (some (0, 0, false)) else (some ((rd_T37 t1002 (wrap64 ((t1002.length : Int) - 1))).f0, (rd_T37 t1002 (wrap64 ((t1002.length : Int) - 1))).f1, true)))) else (none)) else (none)))) = some (r1, r2, r3) := h
 clear h
 replace H := Option.bind_eq_some_iff.mp H
 obtain ⟨t1002, A40, H⟩ := H
 replace H : (if (t1002.length : Int) = 0 then (some (0, 0, false)) else (if 0 ≤ (wrap64 ((t1002.length : Int) - 1)) then (if (wrap64 ((t1002.length : Int) - 1)) < (t1002.length : Int) then (if ((rd_T37 t1002 (wrap64 ((t1002.length : Int) - 1))).f0) < (wrap64 (a1 - a2)) then (some (0, 0, false)) else (if ((rd_T37 t1002 (wrap64 ((t1002.length : Int) - 1))).f1) = (-9223372036854775808) then (some (0, 0, false)) else (some ((rd_T37 t1002 (wrap64 ((t1002.length : Int) - 1))).f0, (rd_T37 t1002 (wrap64 ((t1002.length : Int) - 1))).f1, true)))) else (none)) else (none))) = some (r1, r2, r3) := H
 have A4 := am_ A40
 clear A40
 by_cases c5 : (t1002.length : Int) = 0
 ·rw [if_pos c5] at H
  have c5b0 : ((t1002.length : Int) == 0) = true := beq_iff_eq.mpr c5
  have c5b1 : ((t1002.length : Int) != 0) = false := bne_eq_false_iff_eq.mpr c5
  clear c5
  simp only [Option.some.injEq, Prod.mk.injEq] at H
  obtain ⟨rfl, rfl, rfl⟩ := H
  go_enter Try.func74, Try.ntmps74
  go_wp2_with (first | ((with_reducible refine gate_dst (N := 6) rfl ?_); refine box_event ?hg (N := 6) ?hd (cs := #[.int .i64 0, .int .i64 0]) (t := 37) ?hr ?_; (case hd => rfl); (case hg => rfl); (case hr => first | (go_simp; done) | (go_simp; rfl)); intro gb1001 hg w6 hbox hb; have n0_ := am_ (below_step bl_ hb); have n1_ := am_ (hbox); have n2_ := am_ (gs_ hg : w.heap.size ≤ gb1001); have n3_ := n2_; clear HB; have HB := n0_; have BK1001 := n1_; have GW1001 := n2_; have GE1001 := n3_; clear n0_ n1_ n2_ n3_; clear hb hbox hg) | ((with_reducible refine gate_callee (f := 79) rfl ?_); refine goesL_ (some 12) rfl rfl Try.func79 (by kernel_rfl) rfl #[.slice A0 l0.length c0, .int .i64 0, .int .i64 a1] rfl ag_ ?_; (with_reducible refine (spec_l6Cut.calls k _ _ l0 0 a1 t1002 _ ?side1 ?side2 A4.out).mono ?_); (case side1 => exact cc_ (Kd.C_below HR0.out HB.out)); (case side2 => exact HC0.out); rintro e w7 ⟨v1003, rfl, ho0, hb⟩; refine ⟨_, rfl, ?_⟩; have n0_ := am_ (Kd.R_lower (Kd.R_newB ho0 (g := gb1001) (o := .cells #[.int .i64 0, .int .i64 0] 37 (0, 0)) (vk_ BK1001)) (below_size bg_)); have n1_ := am_ (blk_below (g := gb1001) (vk_ BK1001) hb); have n2_ := am_ (below_step bg_ hb); clear BK1001; clear HB; have HO1004 := n0_; have BK1001 := n1_; have HB := n2_; clear n0_ n1_ n2_; (try clear hb); (try clear hb2); (try clear hk); (try clear hi); (try clear ho0); obtain ⟨Ao8, co8, eo8⟩ := Kd.R_slice HO1004.out; subst eo8; have hcz9_0 := bc2_0 BK1001; have hcz9_1 := bc2_1 BK1001; have hfz9_0 := bf_ BK1001 0; have hfz9_1 := bf_ BK1001 1))
  refine bodyPost_ret (results_ct rfl _ _ gb1001 37 #[.int .i64 0, .int .i64 0] (0, 0) _ rfl (by (with_reducible repeat (first | refine blk_drewN ?_ _ | refine blk_drew ?_ | refine blk_alloc ?_ _)); refine blk_put (cs := #[.int .i64 0, .int .i64 0]) ?_ 1 _ rfl; (with_reducible repeat (first | refine blk_drewN ?_ _ | refine blk_drew ?_ | refine blk_alloc ?_ _)); refine blk_put (cs := #[.int .i64 0, .int .i64 0]) ?_ 0 _ rfl; (with_reducible repeat (first | refine blk_drewN ?_ _ | refine blk_drew ?_ | refine blk_alloc ?_ _)); exact BK1001.out) Try.underlying37 rfl (by kernel_rfl)) rfl ?_
  exact ⟨rf_, bg_⟩
 ·rw [if_neg c5] at H
  have c5b0 : ((t1002.length : Int) == 0) = false := beq_eq_false_iff_ne.mpr c5
  have c5b1 : ((t1002.length : Int) != 0) = true := bne_iff_ne.mpr c5
  have c5b2 : ¬ (t1002 = []) := fun h_ => c5 (by rw [h_]; rfl)
  obtain ⟨ji10, hji10⟩ : ∃ j_ : Int, (wrap64 ((t1002.length : Int) - 1)) = j_ := ⟨_, rfl⟩
  replace H : (if 0 ≤ (ji10) then (if (ji10) < (t1002.length : Int) then (if ((rd_T37 t1002 (ji10)).f0) < (wrap64 (a1 - a2)) then (some (0, 0, false)) else (if ((rd_T37 t1002 (ji10)).f1) = (-9223372036854775808) then (some (0, 0, false)) else (some ((rd_T37 t1002 (ji10)).f0, (rd_T37 t1002 (ji10)).f1, true)))) else (none)) else (none)) = some (r1, r2, r3) := by first | (rw [hji10] at H; exact H) | (simp only [hji10] at H ⊢; exact H)
  (try rw [hji10] at A4)
  have hji10w : (IntKind.i64.wrap ((t1002.length : Int) - 1)) = ji10 := (i64_w _).trans hji10
  by_cases c11 : 0 ≤ (ji10)
  ·rw [if_pos c11] at H
   have c11b0 : decide (0 ≤ (ji10)) = true := decide_eq_true c11
   clear c11
   by_cases c12 : (ji10) < (t1002.length : Int)
   ·rw [if_pos c12] at H
    have c12b0 : decide ((ji10) < (t1002.length : Int)) = true := decide_eq_true c12
    clear c12
    by_cases c13 : ((rd_T37 t1002 (ji10)).f0) < (wrap64 (a1 - a2))
    ·rw [if_pos c13] at H
     have c13b0 : decide (((rd_T37 t1002 (ji10)).f0) < (wrap64 (a1 - a2))) = true := decide_eq_true c13
     clear c13
     simp only [Option.some.injEq, Prod.mk.injEq] at H
     obtain ⟨rfl, rfl, rfl⟩ := H
     go_enter Try.func74, Try.ntmps74
     go_wp2_with (first | ((with_reducible refine gate_dst (N := 6) rfl ?_); refine box_event ?hg (N := 6) ?hd (cs := #[.int .i64 0, .int .i64 0]) (t := 37) ?hr ?_; (case hd => rfl); (case hg => rfl); (case hr => first | (go_simp; done) | (go_simp; rfl)); intro gb1001 hg w14 hbox hb; have n0_ := am_ (below_step bl_ hb); have n1_ := am_ (hbox); have n2_ := am_ (gs_ hg : w.heap.size ≤ gb1001); have n3_ := n2_; clear HB; have HB := n0_; have BK1001 := n1_; have GW1001 := n2_; have GE1001 := n3_; clear n0_ n1_ n2_ n3_; clear hb hbox hg) | ((with_reducible refine gate_callee (f := 79) rfl ?_); refine goesL_ (some 12) rfl rfl Try.func79 (by kernel_rfl) rfl #[.slice A0 l0.length c0, .int .i64 0, .int .i64 a1] rfl ag_ ?_; (with_reducible refine (spec_l6Cut.calls k _ _ l0 0 a1 t1002 _ ?side1 ?side2 A4.out).mono ?_); (case side1 => exact cc_ (Kd.C_below HR0.out HB.out)); (case side2 => exact HC0.out); rintro e w15 ⟨v1003, rfl, ho0, hb⟩; refine ⟨_, rfl, ?_⟩; have n0_ := am_ (Kd.R_lower (Kd.R_newB ho0 (g := gb1001) (o := .cells #[.int .i64 0, .int .i64 0] 37 (0, 0)) (vk_ BK1001)) (below_size bg_)); have n1_ := am_ (blk_below (g := gb1001) (vk_ BK1001) hb); have n2_ := am_ (below_step bg_ hb); clear BK1001; clear HB; have HO1004 := n0_; have BK1001 := n1_; have HB := n2_; clear n0_ n1_ n2_; (try clear hb); (try clear hb2); (try clear hk); (try clear hi); (try clear ho0); obtain ⟨Ao16, co16, eo16⟩ := Kd.R_slice HO1004.out; subst eo16; have p1005 : 0 ≤ ((ji10) : Int) := od_; have q1005 : (ji10) < (t1002.length : Int) := od_; obtain ⟨ad1005, e1005, hx1005_0, hx1005_1⟩ := at_T37 (Kd.R_reads' HO1004.out).2.2 (ji10) p1005 q1005; cases e1005; replace p1005 := eq_true p1005; replace q1005 := eq_true q1005) | ((with_reducible refine gate_dst (N := 9) rfl ?_); refine box_event ?hg (N := 9) ?hd (cs := #[.int .i64 0, .int .i64 0]) (t := 37) ?hr ?_; (case hd => rfl); (case hg => rfl); (case hr => first | (go_simp; done) | (go_simp; rfl)); intro gb1006 hg w17 hbox hb; have n0_ := am_ (Kd.R_below (Kd.R_elderB (ro_ HO1004) gb1006 (Nat.le_of_eq hg.symm)) hb); have n1_ := am_ (blk_below (g := gb1001) (vk_ BK1001) hb); have n2_ := am_ (below_step bg_ hb); have n3_ := am_ (hbox); have n4_ := am_ (gg_ hg : w.heap.size ≤ gb1006); have n5_ := n4_; have n6_ := am_ ((by rw [hg]; exact Nat.ne_of_lt (blk_lt (g := gb1001) (o := .cells #[.int .i64 0, .int .i64 0] 37 (0, 0)) (vk_ BK1001)) : gb1001 ≠ gb1006)); have n7_ := am_ ((by rw [hg]; exact Nat.ne_of_gt (blk_lt (g := gb1001) (o := .cells #[.int .i64 0, .int .i64 0] 37 (0, 0)) (vk_ BK1001)) : gb1006 ≠ gb1001)); clear HO1004; clear BK1001; clear HB; have HO1004 := n0_; have BK1001 := n1_; have HB := n2_; have BK1006 := n3_; have GW1006 := n4_; have GE1006 := n5_; have NB1001_1006 := n6_; have NB1006_1001 := n7_; clear n0_ n1_ n2_ n3_ n4_ n5_ n6_ n7_; clear hb hbox hg; have hnb18 := NB1006_1001.out; have hnc18 := NB1001_1006.out; have hcz19_0 := bc2_0 BK1006; have hcz19_1 := bc2_1 BK1006; have hfz19_0 := bf_ BK1006 0; have hfz19_1 := bf_ BK1006 1; have hcz20_0 := bc2_0 BK1001; have hcz20_1 := bc2_1 BK1001; have hfz20_0 := bf_ BK1001 0; have hfz20_1 := bf_ BK1001 1))
     refine bodyPost_ret (results_ct rfl _ _ gb1001 37 #[.int .i64 0, .int .i64 0] (0, 0) _ rfl (by (with_reducible repeat (first | refine blk_drewN ?_ _ | refine blk_drew ?_ | refine blk_alloc ?_ _)); refine blk_put (cs := #[.int .i64 0, .int .i64 0]) ?_ 1 _ rfl; (with_reducible repeat (first | refine blk_drewN ?_ _ | refine blk_drew ?_ | refine blk_alloc ?_ _)); refine blk_put (cs := #[.int .i64 0, .int .i64 0]) ?_ 0 _ rfl; (with_reducible repeat (first | refine blk_drewN ?_ _ | refine blk_drew ?_ | refine blk_alloc ?_ _)); refine blk_far ?_ NB1001_1006.out _; (with_reducible repeat (first | refine blk_drewN ?_ _ | refine blk_drew ?_ | refine blk_alloc ?_ _)); refine blk_far ?_ NB1001_1006.out _; (with_reducible repeat (first | refine blk_drewN ?_ _ | refine blk_drew ?_ | refine blk_alloc ?_ _)); exact BK1001.out) Try.underlying37 rfl (by kernel_rfl)) rfl ?_
     exact ⟨by first | rfl | (simp [errW_none, errW_some] <;> rfl) | (simp only [← hji10]; first | rfl | (simp [errW_none, errW_some] <;> rfl)) | (simp [*, errW_none, errW_some] <;> rfl) | (simp [*, Go.Proofs.Ytjapdjkckhcelaa.Gt.nil_bne]; done), bg_⟩
    ·rw [if_neg c13] at H
     have c13b0 : decide (((rd_T37 t1002 (ji10)).f0) < (wrap64 (a1 - a2))) = false := decide_eq_false c13
     clear c13
     by_cases c21 : ((rd_T37 t1002 (ji10)).f1) = (-9223372036854775808)
     ·rw [if_pos c21] at H
      have c21b0 : (((rd_T37 t1002 (ji10)).f1) == (-9223372036854775808)) = true := beq_iff_eq.mpr c21
      have c21b1 : (((rd_T37 t1002 (ji10)).f1) != (-9223372036854775808)) = false := bne_eq_false_iff_eq.mpr c21
      clear c21
      simp only [Option.some.injEq, Prod.mk.injEq] at H
      obtain ⟨rfl, rfl, rfl⟩ := H
      go_enter Try.func74, Try.ntmps74
      go_wp2_with (first | ((with_reducible refine gate_dst (N := 6) rfl ?_); refine box_event ?hg (N := 6) ?hd (cs := #[.int .i64 0, .int .i64 0]) (t := 37) ?hr ?_; (case hd => rfl); (case hg => rfl); (case hr => first | (go_simp; done) | (go_simp; rfl)); intro gb1001 hg w22 hbox hb; have n0_ := am_ (below_step bl_ hb); have n1_ := am_ (hbox); have n2_ := am_ (gs_ hg : w.heap.size ≤ gb1001); have n3_ := n2_; clear HB; have HB := n0_; have BK1001 := n1_; have GW1001 := n2_; have GE1001 := n3_; clear n0_ n1_ n2_ n3_; clear hb hbox hg) | ((with_reducible refine gate_callee (f := 79) rfl ?_); refine goesL_ (some 12) rfl rfl Try.func79 (by kernel_rfl) rfl #[.slice A0 l0.length c0, .int .i64 0, .int .i64 a1] rfl ag_ ?_; (with_reducible refine (spec_l6Cut.calls k _ _ l0 0 a1 t1002 _ ?side1 ?side2 A4.out).mono ?_); (case side1 => exact cc_ (Kd.C_below HR0.out HB.out)); (case side2 => exact HC0.out); rintro e w23 ⟨v1003, rfl, ho0, hb⟩; refine ⟨_, rfl, ?_⟩; have n0_ := am_ (Kd.R_lower (Kd.R_newB ho0 (g := gb1001) (o := .cells #[.int .i64 0, .int .i64 0] 37 (0, 0)) (vk_ BK1001)) (below_size bg_)); have n1_ := am_ (blk_below (g := gb1001) (vk_ BK1001) hb); have n2_ := am_ (below_step bg_ hb); clear BK1001; clear HB; have HO1004 := n0_; have BK1001 := n1_; have HB := n2_; clear n0_ n1_ n2_; (try clear hb); (try clear hb2); (try clear hk); (try clear hi); (try clear ho0); obtain ⟨Ao24, co24, eo24⟩ := Kd.R_slice HO1004.out; subst eo24; have p1005 : 0 ≤ ((ji10) : Int) := od_; have q1005 : (ji10) < (t1002.length : Int) := od_; obtain ⟨ad1005, e1005, hx1005_0, hx1005_1⟩ := at_T37 (Kd.R_reads' HO1004.out).2.2 (ji10) p1005 q1005; cases e1005; replace p1005 := eq_true p1005; replace q1005 := eq_true q1005) | ((with_reducible refine gate_dst (N := 9) rfl ?_); refine box_event ?hg (N := 9) ?hd (cs := #[.int .i64 0, .int .i64 0]) (t := 37) ?hr ?_; (case hd => rfl); (case hg => rfl); (case hr => first | (go_simp; done) | (go_simp; rfl)); intro gb1006 hg w25 hbox hb; have n0_ := am_ (Kd.R_below (Kd.R_elderB (ro_ HO1004) gb1006 (Nat.le_of_eq hg.symm)) hb); have n1_ := am_ (blk_below (g := gb1001) (vk_ BK1001) hb); have n2_ := am_ (below_step bg_ hb); have n3_ := am_ (hbox); have n4_ := am_ (gg_ hg : w.heap.size ≤ gb1006); have n5_ := n4_; have n6_ := am_ ((by rw [hg]; exact Nat.ne_of_lt (blk_lt (g := gb1001) (o := .cells #[.int .i64 0, .int .i64 0] 37 (0, 0)) (vk_ BK1001)) : gb1001 ≠ gb1006)); have n7_ := am_ ((by rw [hg]; exact Nat.ne_of_gt (blk_lt (g := gb1001) (o := .cells #[.int .i64 0, .int .i64 0] 37 (0, 0)) (vk_ BK1001)) : gb1006 ≠ gb1001)); clear HO1004; clear BK1001; clear HB; have HO1004 := n0_; have BK1001 := n1_; have HB := n2_; have BK1006 := n3_; have GW1006 := n4_; have GE1006 := n5_; have NB1001_1006 := n6_; have NB1006_1001 := n7_; clear n0_ n1_ n2_ n3_ n4_ n5_ n6_ n7_; clear hb hbox hg; have hnb26 := NB1006_1001.out; have hnc26 := NB1001_1006.out; have hcz27_0 := bc2_0 BK1006; have hcz27_1 := bc2_1 BK1006; have hfz27_0 := bf_ BK1006 0; have hfz27_1 := bf_ BK1006 1; have hcz28_0 := bc2_0 BK1001; have hcz28_1 := bc2_1 BK1001; have hfz28_0 := bf_ BK1001 0; have hfz28_1 := bf_ BK1001 1))
      refine bodyPost_ret (results_ct rfl _ _ gb1001 37 #[.int .i64 0, .int .i64 0] (0, 0) _ rfl (by (with_reducible repeat (first | refine blk_drewN ?_ _ | refine blk_drew ?_ | refine blk_alloc ?_ _)); refine blk_put (cs := #[.int .i64 0, .int .i64 0]) ?_ 1 _ rfl; (with_reducible repeat (first | refine blk_drewN ?_ _ | refine blk_drew ?_ | refine blk_alloc ?_ _)); refine blk_put (cs := #[.int .i64 0, .int .i64 0]) ?_ 0 _ rfl; (with_reducible repeat (first | refine blk_drewN ?_ _ | refine blk_drew ?_ | refine blk_alloc ?_ _)); refine blk_far ?_ NB1001_1006.out _; (with_reducible repeat (first | refine blk_drewN ?_ _ | refine blk_drew ?_ | refine blk_alloc ?_ _)); refine blk_far ?_ NB1001_1006.out _; (with_reducible repeat (first | refine blk_drewN ?_ _ | refine blk_drew ?_ | refine blk_alloc ?_ _)); exact BK1001.out) Try.underlying37 rfl (by kernel_rfl)) rfl ?_
      exact ⟨by first | rfl | (simp [errW_none, errW_some] <;> rfl) | (simp only [← hji10]; first | rfl | (simp [errW_none, errW_some] <;> rfl)) | (simp [*, errW_none, errW_some] <;> rfl) | (simp [*, Go.Proofs.Ytjapdjkckhcelaa.Gt.nil_bne]; done), bg_⟩
     ·rw [if_neg c21] at H
      have c21b0 : (((rd_T37 t1002 (ji10)).f1) == (-9223372036854775808)) = false := beq_eq_false_iff_ne.mpr c21
      have c21b1 : (((rd_T37 t1002 (ji10)).f1) != (-9223372036854775808)) = true := bne_iff_ne.mpr c21
      simp only [Option.some.injEq, Prod.mk.injEq] at H
      obtain ⟨rfl, rfl, rfl⟩ := H
      go_enter Try.func74, Try.ntmps74
      go_wp2_with (first | ((with_reducible refine gate_dst (N := 6) rfl ?_); refine box_event ?hg (N := 6) ?hd (cs := #[.int .i64 0, .int .i64 0]) (t := 37) ?hr ?_; (case hd => rfl); (case hg => rfl); (case hr => first | (go_simp; done) | (go_simp; rfl)); intro gb1001 hg w29 hbox hb; have n0_ := am_ (below_step bl_ hb); have n1_ := am_ (hbox); have n2_ := am_ (gs_ hg : w.heap.size ≤ gb1001); have n3_ := n2_; clear HB; have HB := n0_; have BK1001 := n1_; have GW1001 := n2_; have GE1001 := n3_; clear n0_ n1_ n2_ n3_; clear hb hbox hg) | ((with_reducible refine gate_callee (f := 79) rfl ?_); refine goesL_ (some 12) rfl rfl Try.func79 (by kernel_rfl) rfl #[.slice A0 l0.length c0, .int .i64 0, .int .i64 a1] rfl ag_ ?_; (with_reducible refine (spec_l6Cut.calls k _ _ l0 0 a1 t1002 _ ?side1 ?side2 A4.out).mono ?_); (case side1 => exact cc_ (Kd.C_below HR0.out HB.out)); (case side2 => exact HC0.out); rintro e w30 ⟨v1003, rfl, ho0, hb⟩; refine ⟨_, rfl, ?_⟩; have n0_ := am_ (Kd.R_lower (Kd.R_newB ho0 (g := gb1001) (o := .cells #[.int .i64 0, .int .i64 0] 37 (0, 0)) (vk_ BK1001)) (below_size bg_)); have n1_ := am_ (blk_below (g := gb1001) (vk_ BK1001) hb); have n2_ := am_ (below_step bg_ hb); clear BK1001; clear HB; have HO1004 := n0_; have BK1001 := n1_; have HB := n2_; clear n0_ n1_ n2_; (try clear hb); (try clear hb2); (try clear hk); (try clear hi); (try clear ho0); obtain ⟨Ao31, co31, eo31⟩ := Kd.R_slice HO1004.out; subst eo31; have p1005 : 0 ≤ ((ji10) : Int) := od_; have q1005 : (ji10) < (t1002.length : Int) := od_; obtain ⟨ad1005, e1005, hx1005_0, hx1005_1⟩ := at_T37 (Kd.R_reads' HO1004.out).2.2 (ji10) p1005 q1005; cases e1005; replace p1005 := eq_true p1005; replace q1005 := eq_true q1005) | ((with_reducible refine gate_dst (N := 9) rfl ?_); refine box_event ?hg (N := 9) ?hd (cs := #[.int .i64 0, .int .i64 0]) (t := 37) ?hr ?_; (case hd => rfl); (case hg => rfl); (case hr => first | (go_simp; done) | (go_simp; rfl)); intro gb1006 hg w32 hbox hb; have n0_ := am_ (Kd.R_below (Kd.R_elderB (ro_ HO1004) gb1006 (Nat.le_of_eq hg.symm)) hb); have n1_ := am_ (blk_below (g := gb1001) (vk_ BK1001) hb); have n2_ := am_ (below_step bg_ hb); have n3_ := am_ (hbox); have n4_ := am_ (gg_ hg : w.heap.size ≤ gb1006); have n5_ := n4_; have n6_ := am_ ((by rw [hg]; exact Nat.ne_of_lt (blk_lt (g := gb1001) (o := .cells #[.int .i64 0, .int .i64 0] 37 (0, 0)) (vk_ BK1001)) : gb1001 ≠ gb1006)); have n7_ := am_ ((by rw [hg]; exact Nat.ne_of_gt (blk_lt (g := gb1001) (o := .cells #[.int .i64 0, .int .i64 0] 37 (0, 0)) (vk_ BK1001)) : gb1006 ≠ gb1001)); clear HO1004; clear BK1001; clear HB; have HO1004 := n0_; have BK1001 := n1_; have HB := n2_; have BK1006 := n3_; have GW1006 := n4_; have GE1006 := n5_; have NB1001_1006 := n6_; have NB1006_1001 := n7_; clear n0_ n1_ n2_ n3_ n4_ n5_ n6_ n7_; clear hb hbox hg; have hnb33 := NB1006_1001.out; have hnc33 := NB1001_1006.out; have hcz34_0 := bc2_0 BK1006; have hcz34_1 := bc2_1 BK1006; have hfz34_0 := bf_ BK1006 0; have hfz34_1 := bf_ BK1006 1; have hcz35_0 := bc2_0 BK1001; have hcz35_1 := bc2_1 BK1001; have hfz35_0 := bf_ BK1001 0; have hfz35_1 := bf_ BK1001 1))
      refine bodyPost_ret (results_ct rfl _ _ gb1001 37 #[.int .i64 ((rd_T37 t1002 (ji10)).f0), .int .i64 ((rd_T37 t1002 (ji10)).f1)] (0, 0) _ rfl (by (with_reducible repeat (first | refine blk_drewN ?_ _ | refine blk_drew ?_ | refine blk_alloc ?_ _)); refine blk_put (cs := #[.int .i64 ((rd_T37 t1002 (ji10)).f0), .int .i64 0]) ?_ 1 _ rfl; (with_reducible repeat (first | refine blk_drewN ?_ _ | refine blk_drew ?_ | refine blk_alloc ?_ _)); refine blk_put (cs := #[.int .i64 0, .int .i64 0]) ?_ 0 _ rfl; (with_reducible repeat (first | refine blk_drewN ?_ _ | refine blk_drew ?_ | refine blk_alloc ?_ _)); refine blk_far ?_ NB1001_1006.out _; (with_reducible repeat (first | refine blk_drewN ?_ _ | refine blk_drew ?_ | refine blk_alloc ?_ _)); refine blk_far ?_ NB1001_1006.out _; (with_reducible repeat (first | refine blk_drewN ?_ _ | refine blk_drew ?_ | refine blk_alloc ?_ _)); exact BK1001.out) Try.underlying37 rfl (by kernel_rfl)) rfl ?_
      exact ⟨by first | rfl | (simp [errW_none, errW_some] <;> rfl) | (simp only [← hji10]; first | rfl | (simp [errW_none, errW_some] <;> rfl)) | (simp [*, errW_none, errW_some] <;> rfl) | (simp [*, Go.Proofs.Ytjapdjkckhcelaa.Gt.nil_bne]; done), bg_⟩
   ·rw [if_neg c12] at H
    exact absurd H (by simp)
  ·rw [if_neg c11] at H
   exact absurd H (by simp)

/-! ### spec_SampleAt: function 25 -/
def spec_SampleAt.f (k : Nat) (l0 : List (S37)) (a1 : Int) (a2 : Int) : Option (Int × Int × Bool) := (spec_GoodSamples.f k l0).bind fun t1002 => (if t1002 = true then ((spec_l3Time.f a1).bind fun t1003 => (if t1003 = true then ((spec_l3Time.f a2).bind fun t1004 => (if t1004 = true then ((spec_l6At.f k l0 a1 a2).bind fun bt1005 => (some (bt1005.1, bt1005.2.1, bt1005.2.2))) else (some (0, 0, false)))) else (some (0, 0, false)))) else (some (0, 0, false)))
theorem spec_SampleAt.mono : ∀ a0 a1 a2 k, LeO (spec_SampleAt.f k a0 a1 a2) (spec_SampleAt.f (k + 1) a0 a1 a2) := by
 intro a0 a1 a2 k
 unfold spec_SampleAt.f
 repeat' first
   | with_reducible first | exact spec_GoodSamples.mono _ _ | exact spec_l6At.mono _ _ _ _ | exact LeO.refl _ | exact LeO.none _ | refine LeO.ite ?_ ?_ | refine LeO.bind ?_ (fun _ => ?_)
   | exact spec_GoodSamples.mono _ _
   | exact spec_l6At.mono _ _ _ _
   | exact LeO.none _
   | refine LeO.ite ?_ ?_
   | refine LeO.bind ?_ (fun _ => ?_)
set_option maxHeartbeats 8000000 in
set_option maxRecDepth 100000 in
theorem spec_SampleAt.calls (k : Nat) (A0 : Option Addr) (c0 : Nat) (l0 : List (S37)) (a1 : Int) (a2 : Int) (r1 : Int) (r2 : Int) (r3 : Bool) (w : World) (hr0 : Kd.C k37 w A0 l0.length l0) (hc0 : l0.length ≤ c0) (h : spec_SampleAt.f k l0 a1 a2 = some (r1, r2, r3)) :
  Calls Try.prog 25 #[.slice A0 l0.length c0, .int .i64 a1, .int .i64 a2] w fun e w' => e = .returned (.tuple #[.agg #[.int .i64 r1, .int .i64 r2], .bool r3]) ∧ Below w.heap.size w w' := by
 have hu37 := Try.underlying37
 have HR0 := am_ hr0
 have HC0 := am_ hc0
 clear hr0 hc0
 have HB := am_ (Below.refl w.heap.size w)
 have H : ((spec_GoodSamples.f k l0).bind fun t1002 => (if t1002 = true then ((spec_l3Time.f a1).bind fun t1003 => (if t1003 = true then ((spec_l3Time.f a2).bind fun t1004 => (if t1004 = true then ((spec_l6At.f k l0 a1 a2).bind fun bt1005 => (some (bt1005.1, bt1005.2.1, bt1005.2.2))) else (some (0, 0, false)))) else (some (0, 0, false)))) else (some (0, 0, false)))) = some (r1, r2, r3) := h
 clear h
 replace H := Option.bind_eq_some_iff.mp H
 obtain ⟨t1002, A40, H⟩ := H
 replace H : (if t1002 = true then ((spec_l3Time.f a1).bind fun t1003 => (if t1003 = true then ((spec_l3Time.f a2).bind fun t1004 => (if t1004 = true then ((spec_l6At.f k l0 a1 a2).bind fun bt1005 => (some (bt1005.1, bt1005.2.1, bt1005.2.2))) else (some (0, 0, false)))) else (some (0, 0, false)))) else (some (0, 0, false))) = some (r1, r2, r3) := H
 have A4 := am_ A40
 clear A40
 by_cases c5 : t1002 = true
 ·subst c5
  have H1 : ((spec_l3Time.f a1).bind fun t1003 => (if t1003 = true then ((spec_l3Time.f a2).bind fun t1004 => (if t1004 = true then ((spec_l6At.f k l0 a1 a2).bind fun bt1005 => (some (bt1005.1, bt1005.2.1, bt1005.2.2))) else (some (0, 0, false)))) else (some (0, 0, false)))) = some (r1, r2, r3) := by rw [if_pos rfl] at H; exact H
  clear H
  have H := H1
  clear H1
  replace H := Option.bind_eq_some_iff.mp H
  obtain ⟨t1003, A60, H⟩ := H
  replace H : (if t1003 = true then ((spec_l3Time.f a2).bind fun t1004 => (if t1004 = true then ((spec_l6At.f k l0 a1 a2).bind fun bt1005 => (some (bt1005.1, bt1005.2.1, bt1005.2.2))) else (some (0, 0, false)))) else (some (0, 0, false))) = some (r1, r2, r3) := H
  have A6 := am_ A60
  clear A60
  by_cases c7 : t1003 = true
  ·subst c7
   have H1 : ((spec_l3Time.f a2).bind fun t1004 => (if t1004 = true then ((spec_l6At.f k l0 a1 a2).bind fun bt1005 => (some (bt1005.1, bt1005.2.1, bt1005.2.2))) else (some (0, 0, false)))) = some (r1, r2, r3) := by rw [if_pos rfl] at H; exact H
   clear H
   have H := H1
   clear H1
   replace H := Option.bind_eq_some_iff.mp H
   obtain ⟨t1004, A80, H⟩ := H
   replace H : (if t1004 = true then ((spec_l6At.f k l0 a1 a2).bind fun bt1005 => (some (bt1005.1, bt1005.2.1, bt1005.2.2))) else (some (0, 0, false))) = some (r1, r2, r3) := H
   have A8 := am_ A80
   clear A80
   by_cases c9 : t1004 = true
   ·subst c9
    have H1 : ((spec_l6At.f k l0 a1 a2).bind fun bt1005 => (some (bt1005.1, bt1005.2.1, bt1005.2.2))) = some (r1, r2, r3) := by rw [if_pos rfl] at H; exact H
    clear H
    have H := H1
    clear H1
    replace H := Option.bind_eq_some_iff.mp H
    obtain ⟨⟨t1005, t1006, t1007⟩, A100, H⟩ := H
    replace H : (some (t1005, t1006, t1007)) = some (r1, r2, r3) := H
    have A10 := am_ A100
    clear A100
    simp only [Option.some.injEq, Prod.mk.injEq] at H
    obtain ⟨rfl, rfl, rfl⟩ := H
    go_enter Try.func25, Try.ntmps25
    go_wp2_with (first | ((with_reducible refine gate_dst (N := 6) rfl ?_); refine box_event ?hg (N := 6) ?hd (cs := #[.int .i64 0, .int .i64 0]) (t := 37) ?hr ?_; (case hd => rfl); (case hg => rfl); (case hr => first | (go_simp; done) | (go_simp; rfl)); intro gb1001 hg w11 hbox hb; have n0_ := am_ (below_step bl_ hb); have n1_ := am_ (hbox); have n2_ := am_ (gs_ hg : w.heap.size ≤ gb1001); have n3_ := n2_; clear HB; have HB := n0_; have BK1001 := n1_; have GW1001 := n2_; have GE1001 := n3_; clear n0_ n1_ n2_ n3_; clear hb hbox hg) | ((with_reducible refine gate_callee (f := 72) rfl ?_); refine goesL_ (some 9) rfl rfl Try.func72 (by kernel_rfl) rfl #[.slice A0 l0.length c0] rfl ag_ ?_; (with_reducible refine (spec_GoodSamples.calls k _ _ l0 true _ ?side1 ?side2 A4.out).mono ?_); (case side1 => exact cc_ (Kd.C_below HR0.out HB.out)); (case side2 => exact HC0.out); rintro e w12 ⟨rfl, hb⟩; refine ⟨_, rfl, ?_⟩; have n0_ := am_ (blk_below (g := gb1001) (vk_ BK1001) hb); have n1_ := am_ (below_step bg_ hb); clear BK1001; clear HB; have BK1001 := n0_; have HB := n1_; clear n0_ n1_; (try clear hb); (try clear hb2); (try clear hk); (try clear hi)) | (go_at_call 73; (with_reducible refine (spec_l3Time.calls a1 true _ A6.out).mono ?_); rintro e w' ⟨rfl, ⟨nd, rfl⟩⟩; (try (rw [drewN_self w12]; generalize hq_ : World.drewN w12 _ = w12; have n0_ : Aside0 (w12.heap[gb1001]? = some (.cells #[.int .i64 0, .int .i64 0] 37 (0, 0))) := ⟨by rw [← hq_]; exact (vk_ BK1001)⟩; have n1_ : Aside0 (Below w.heap.size w w12) := ⟨by rw [← hq_]; exact bg_⟩; clear BK1001 HB hq_; have BK1001 := n0_; have HB := n1_; clear n0_ n1_))) | (go_at_call 73; (with_reducible refine (spec_l3Time.calls a2 true _ A8.out).mono ?_); rintro e w' ⟨rfl, ⟨nd, rfl⟩⟩; (try (rw [drewN_self w12]; generalize hq_ : World.drewN w12 _ = w12; have n0_ : Aside0 (w12.heap[gb1001]? = some (.cells #[.int .i64 0, .int .i64 0] 37 (0, 0))) := ⟨by rw [← hq_]; exact (vk_ BK1001)⟩; have n1_ : Aside0 (Below w.heap.size w w12) := ⟨by rw [← hq_]; exact bg_⟩; clear BK1001 HB hq_; have BK1001 := n0_; have HB := n1_; clear n0_ n1_))) | ((with_reducible refine gate_callee (f := 74) rfl ?_); refine goesL_ (some 25) rfl rfl Try.func74 (by kernel_rfl) rfl #[.slice A0 l0.length c0, .int .i64 a1, .int .i64 a2] rfl ag_ ?_; (with_reducible refine (spec_l6At.calls k _ _ l0 a1 a2 t1005 t1006 t1007 _ ?side1 ?side2 A10.out).mono ?_); (case side1 => exact cc_ (Kd.C_below HR0.out HB.out)); (case side2 => exact HC0.out); rintro e w13 ⟨rfl, hb⟩; refine ⟨_, rfl, ?_⟩; have n0_ := am_ (blk_below (g := gb1001) (vk_ BK1001) hb); have n1_ := am_ (below_step bg_ hb); clear BK1001; clear HB; have BK1001 := n0_; have HB := n1_; clear n0_ n1_; (try clear hb); (try clear hb2); (try clear hk); (try clear hi); have hcz14_0 := bc2_0 BK1001; have hcz14_1 := bc2_1 BK1001; have hfz14_0 := bf_ BK1001 0; have hfz14_1 := bf_ BK1001 1))
    refine bodyPost_ret (results_ct rfl _ _ gb1001 37 #[.int .i64 t1005, .int .i64 t1006] (0, 0) _ rfl (by (with_reducible repeat (first | refine blk_drewN ?_ _ | refine blk_drew ?_ | refine blk_alloc ?_ _)); refine blk_put (cs := #[.int .i64 t1005, .int .i64 0]) ?_ 1 _ rfl; (with_reducible repeat (first | refine blk_drewN ?_ _ | refine blk_drew ?_ | refine blk_alloc ?_ _)); refine blk_put (cs := #[.int .i64 0, .int .i64 0]) ?_ 0 _ rfl; (with_reducible repeat (first | refine blk_drewN ?_ _ | refine blk_drew ?_ | refine blk_alloc ?_ _)); exact BK1001.out) Try.underlying37 rfl (by kernel_rfl)) rfl ?_
    exact ⟨rf_, bg_⟩
   ·replace c9 := Bool.eq_false_iff.mpr c9
    subst c9
    have H1 : (some (0, 0, false)) = some (r1, r2, r3) := by rw [if_neg (show ¬ (false = true) by decide)] at H; exact H
    clear H
    have H := H1
    clear H1
    simp only [Option.some.injEq, Prod.mk.injEq] at H
    obtain ⟨rfl, rfl, rfl⟩ := H
    go_enter Try.func25, Try.ntmps25
    go_wp2_with (first | ((with_reducible refine gate_dst (N := 6) rfl ?_); refine box_event ?hg (N := 6) ?hd (cs := #[.int .i64 0, .int .i64 0]) (t := 37) ?hr ?_; (case hd => rfl); (case hg => rfl); (case hr => first | (go_simp; done) | (go_simp; rfl)); intro gb1001 hg w15 hbox hb; have n0_ := am_ (below_step bl_ hb); have n1_ := am_ (hbox); have n2_ := am_ (gs_ hg : w.heap.size ≤ gb1001); have n3_ := n2_; clear HB; have HB := n0_; have BK1001 := n1_; have GW1001 := n2_; have GE1001 := n3_; clear n0_ n1_ n2_ n3_; clear hb hbox hg) | ((with_reducible refine gate_callee (f := 72) rfl ?_); refine goesL_ (some 9) rfl rfl Try.func72 (by kernel_rfl) rfl #[.slice A0 l0.length c0] rfl ag_ ?_; (with_reducible refine (spec_GoodSamples.calls k _ _ l0 true _ ?side1 ?side2 A4.out).mono ?_); (case side1 => exact cc_ (Kd.C_below HR0.out HB.out)); (case side2 => exact HC0.out); rintro e w16 ⟨rfl, hb⟩; refine ⟨_, rfl, ?_⟩; have n0_ := am_ (blk_below (g := gb1001) (vk_ BK1001) hb); have n1_ := am_ (below_step bg_ hb); clear BK1001; clear HB; have BK1001 := n0_; have HB := n1_; clear n0_ n1_; (try clear hb); (try clear hb2); (try clear hk); (try clear hi)) | (go_at_call 73; (with_reducible refine (spec_l3Time.calls a1 true _ A6.out).mono ?_); rintro e w' ⟨rfl, ⟨nd, rfl⟩⟩; (try (rw [drewN_self w16]; generalize hq_ : World.drewN w16 _ = w16; have n0_ : Aside0 (w16.heap[gb1001]? = some (.cells #[.int .i64 0, .int .i64 0] 37 (0, 0))) := ⟨by rw [← hq_]; exact (vk_ BK1001)⟩; have n1_ : Aside0 (Below w.heap.size w w16) := ⟨by rw [← hq_]; exact bg_⟩; clear BK1001 HB hq_; have BK1001 := n0_; have HB := n1_; clear n0_ n1_))) | (go_at_call 73; (with_reducible refine (spec_l3Time.calls a2 false _ A8.out).mono ?_); rintro e w' ⟨rfl, ⟨nd, rfl⟩⟩; (try (rw [drewN_self w16]; generalize hq_ : World.drewN w16 _ = w16; have n0_ : Aside0 (w16.heap[gb1001]? = some (.cells #[.int .i64 0, .int .i64 0] 37 (0, 0))) := ⟨by rw [← hq_]; exact (vk_ BK1001)⟩; have n1_ : Aside0 (Below w.heap.size w w16) := ⟨by rw [← hq_]; exact bg_⟩; clear BK1001 HB hq_; have BK1001 := n0_; have HB := n1_; clear n0_ n1_)); have hcz17_0 := bc2_0 BK1001; have hcz17_1 := bc2_1 BK1001; have hfz17_0 := bf_ BK1001 0; have hfz17_1 := bf_ BK1001 1))
    refine bodyPost_ret (results_ct rfl _ _ gb1001 37 #[.int .i64 0, .int .i64 0] (0, 0) _ rfl (by (with_reducible repeat (first | refine blk_drewN ?_ _ | refine blk_drew ?_ | refine blk_alloc ?_ _)); refine blk_put (cs := #[.int .i64 0, .int .i64 0]) ?_ 1 _ rfl; (with_reducible repeat (first | refine blk_drewN ?_ _ | refine blk_drew ?_ | refine blk_alloc ?_ _)); refine blk_put (cs := #[.int .i64 0, .int .i64 0]) ?_ 0 _ rfl; (with_reducible repeat (first | refine blk_drewN ?_ _ | refine blk_drew ?_ | refine blk_alloc ?_ _)); exact BK1001.out) Try.underlying37 rfl (by kernel_rfl)) rfl ?_
    exact ⟨rf_, bg_⟩
  ·replace c7 := Bool.eq_false_iff.mpr c7
   subst c7
   have H1 : (some (0, 0, false)) = some (r1, r2, r3) := by rw [if_neg (show ¬ (false = true) by decide)] at H; exact H
   clear H
   have H := H1
   clear H1
   simp only [Option.some.injEq, Prod.mk.injEq] at H
   obtain ⟨rfl, rfl, rfl⟩ := H
   go_enter Try.func25, Try.ntmps25
   go_wp2_with (first | ((with_reducible refine gate_dst (N := 6) rfl ?_); refine box_event ?hg (N := 6) ?hd (cs := #[.int .i64 0, .int .i64 0]) (t := 37) ?hr ?_; (case hd => rfl); (case hg => rfl); (case hr => first | (go_simp; done) | (go_simp; rfl)); intro gb1001 hg w18 hbox hb; have n0_ := am_ (below_step bl_ hb); have n1_ := am_ (hbox); have n2_ := am_ (gs_ hg : w.heap.size ≤ gb1001); have n3_ := n2_; clear HB; have HB := n0_; have BK1001 := n1_; have GW1001 := n2_; have GE1001 := n3_; clear n0_ n1_ n2_ n3_; clear hb hbox hg) | ((with_reducible refine gate_callee (f := 72) rfl ?_); refine goesL_ (some 9) rfl rfl Try.func72 (by kernel_rfl) rfl #[.slice A0 l0.length c0] rfl ag_ ?_; (with_reducible refine (spec_GoodSamples.calls k _ _ l0 true _ ?side1 ?side2 A4.out).mono ?_); (case side1 => exact cc_ (Kd.C_below HR0.out HB.out)); (case side2 => exact HC0.out); rintro e w19 ⟨rfl, hb⟩; refine ⟨_, rfl, ?_⟩; have n0_ := am_ (blk_below (g := gb1001) (vk_ BK1001) hb); have n1_ := am_ (below_step bg_ hb); clear BK1001; clear HB; have BK1001 := n0_; have HB := n1_; clear n0_ n1_; (try clear hb); (try clear hb2); (try clear hk); (try clear hi)) | (go_at_call 73; (with_reducible refine (spec_l3Time.calls a1 false _ A6.out).mono ?_); rintro e w' ⟨rfl, ⟨nd, rfl⟩⟩; (try (rw [drewN_self w19]; generalize hq_ : World.drewN w19 _ = w19; have n0_ : Aside0 (w19.heap[gb1001]? = some (.cells #[.int .i64 0, .int .i64 0] 37 (0, 0))) := ⟨by rw [← hq_]; exact (vk_ BK1001)⟩; have n1_ : Aside0 (Below w.heap.size w w19) := ⟨by rw [← hq_]; exact bg_⟩; clear BK1001 HB hq_; have BK1001 := n0_; have HB := n1_; clear n0_ n1_)); have hcz20_0 := bc2_0 BK1001; have hcz20_1 := bc2_1 BK1001; have hfz20_0 := bf_ BK1001 0; have hfz20_1 := bf_ BK1001 1))
   refine bodyPost_ret (results_ct rfl _ _ gb1001 37 #[.int .i64 0, .int .i64 0] (0, 0) _ rfl (by (with_reducible repeat (first | refine blk_drewN ?_ _ | refine blk_drew ?_ | refine blk_alloc ?_ _)); refine blk_put (cs := #[.int .i64 0, .int .i64 0]) ?_ 1 _ rfl; (with_reducible repeat (first | refine blk_drewN ?_ _ | refine blk_drew ?_ | refine blk_alloc ?_ _)); refine blk_put (cs := #[.int .i64 0, .int .i64 0]) ?_ 0 _ rfl; (with_reducible repeat (first | refine blk_drewN ?_ _ | refine blk_drew ?_ | refine blk_alloc ?_ _)); exact BK1001.out) Try.underlying37 rfl (by kernel_rfl)) rfl ?_
   exact ⟨rf_, bg_⟩
 ·replace c5 := Bool.eq_false_iff.mpr c5
  subst c5
  have H1 : (some (0, 0, false)) = some (r1, r2, r3) := by rw [if_neg (show ¬ (false = true) by decide)] at H; exact H
  clear H
  have H := H1
  clear H1
  simp only [Option.some.injEq, Prod.mk.injEq] at H
  obtain ⟨rfl, rfl, rfl⟩ := H
  go_enter Try.func25, Try.ntmps25
  go_wp2_with (first | ((with_reducible refine gate_dst (N := 6) rfl ?_); refine box_event ?hg (N := 6) ?hd (cs := #[.int .i64 0, .int .i64 0]) (t := 37) ?hr ?_; (case hd => rfl); (case hg => rfl); (case hr => first | (go_simp; done) | (go_simp; rfl)); intro gb1001 hg w21 hbox hb; have n0_ := am_ (below_step bl_ hb); have n1_ := am_ (hbox); have n2_ := am_ (gs_ hg : w.heap.size ≤ gb1001); have n3_ := n2_; clear HB; have HB := n0_; have BK1001 := n1_; have GW1001 := n2_; have GE1001 := n3_; clear n0_ n1_ n2_ n3_; clear hb hbox hg) | ((with_reducible refine gate_callee (f := 72) rfl ?_); refine goesL_ (some 9) rfl rfl Try.func72 (by kernel_rfl) rfl #[.slice A0 l0.length c0] rfl ag_ ?_; (with_reducible refine (spec_GoodSamples.calls k _ _ l0 false _ ?side1 ?side2 A4.out).mono ?_); (case side1 => exact cc_ (Kd.C_below HR0.out HB.out)); (case side2 => exact HC0.out); rintro e w22 ⟨rfl, hb⟩; refine ⟨_, rfl, ?_⟩; have n0_ := am_ (blk_below (g := gb1001) (vk_ BK1001) hb); have n1_ := am_ (below_step bg_ hb); clear BK1001; clear HB; have BK1001 := n0_; have HB := n1_; clear n0_ n1_; (try clear hb); (try clear hb2); (try clear hk); (try clear hi); have hcz23_0 := bc2_0 BK1001; have hcz23_1 := bc2_1 BK1001; have hfz23_0 := bf_ BK1001 0; have hfz23_1 := bf_ BK1001 1))
  refine bodyPost_ret (results_ct rfl _ _ gb1001 37 #[.int .i64 0, .int .i64 0] (0, 0) _ rfl (by (with_reducible repeat (first | refine blk_drewN ?_ _ | refine blk_drew ?_ | refine blk_alloc ?_ _)); refine blk_put (cs := #[.int .i64 0, .int .i64 0]) ?_ 1 _ rfl; (with_reducible repeat (first | refine blk_drewN ?_ _ | refine blk_drew ?_ | refine blk_alloc ?_ _)); refine blk_put (cs := #[.int .i64 0, .int .i64 0]) ?_ 0 _ rfl; (with_reducible repeat (first | refine blk_drewN ?_ _ | refine blk_drew ?_ | refine blk_alloc ?_ _)); exact BK1001.out) Try.underlying37 rfl (by kernel_rfl)) rfl ?_
  exact ⟨rf_, bg_⟩

/-! ### impl_sampleAt: function 78 -/
def sort_Search.l0 (P : Nat → Option Bool) : Nat → Nat → Nat → Option Nat
 | 0, _, _ => none
 | k + 1, i, j => if i < j then (P ((i + j) / 2)).bind fun b => (if b = true then sort_Search.l0 P k i ((i + j) / 2) else sort_Search.l0 P k ((i + j) / 2 + 1) j) else some i
theorem sort_Search.mono (P P' : Nat → Option Bool) (hP : ∀ x, LeO (P x) (P' x)) : ∀ k i j, LeO (sort_Search.l0 P k i j) (sort_Search.l0 P' (k + 1) i j)
 | 0, _, _ => LeO.none _
 | k + 1, i, j => by
  have ih := sort_Search.mono P P' hP k
  unfold sort_Search.l0
  exact LeO.ite (LeO.bind (hP _) (fun _ => LeO.ite (ih _ _) (ih _ _))) (LeO.refl _)
set_option maxHeartbeats 4000000 in
theorem sort_Search.calls (k : Nat) (P : Nat → Option Bool) (g : Nat) (lb : Array Value) (eg : ∀ args w, (callFunc g args).run Try.prog w = .ok (.enter g args) w) (n r : Nat) (w : World) (hn : n ≤ 4611686018427387904)
  (hP : ∀ (W : World) (i : Nat) (b : Bool), i < n → Below w.heap.size w W → P i = some b → Calls Try.prog g (#[.int .i64 (i : Int)] ++ lb) W fun e w' => e = .returned (.bool b) ∧ Below W.heap.size W w') (h : sort_Search.l0 P k 0 n = some r) :
  Calls Try.prog 117 #[.int .i64 (n : Int), .func (.func g) #[] lb] w fun e w' => e = .returned (.int .i64 (r : Int)) ∧ Below w.heap.size w w' := by
 have HB := am_ (Below.refl w.heap.size w)
 have hP' := am_ hP
 have H' := am_ h
 clear hP h
 go_enter Try.func117, Try.ntmps117
 go_wp2
 go_loopg [5, 6] k (fun kq v5 v6 w' => ∃ (i j : Nat), v5 = .int .i64 (i : Int) ∧ v6 = .int .i64 (j : Int) ∧ Aside0 (j ≤ n) ∧ Aside0 (sort_Search.l0 P kq i j = some r) ∧ Aside0 (Below w.heap.size w w'))
 case atStart => exact ⟨0, n, rs_, rs_, ⟨Nat.le_refl _⟩, H', ⟨bl_⟩⟩
 case round =>
  clear H'
  obtain ⟨i, j, rfl, rfl, HJ, HA, HB⟩ := hrel
  cases gk with
  | zero => exact absurd HA.out (by simp [sort_Search.l0])
  | succ k1 =>
   have H := HA.out
   clear HA
   simp only [sort_Search.l0] at H
   by_cases c : i < j
   ·rw [if_pos c] at H
    have c0 : decide ((i : Int) < (j : Int)) = true := decide_eq_true (by omega)
    have hj := HJ.out
    obtain ⟨m, hm⟩ : ∃ m : Nat, m = (i + j) / 2 := ⟨_, rfl⟩
    rw [← hm] at H
    obtain ⟨b, hb0, H⟩ := Option.bind_eq_some_iff.mp H
    have em : wrap64 (IntKind.u64.wrap (wrap64 ((i : Int) + (j : Int))) / 2) = (m : Int) := by rw [show wrap64 ((i : Int) + (j : Int)) = (i : Int) + (j : Int) from by unfold wrap64; omega, show IntKind.u64.wrap ((i : Int) + (j : Int)) = (i : Int) + (j : Int) from by simp [IntKind.wrap, IntKind.bits, IntKind.signed]; omega]; unfold wrap64; omega
    have ew : wrap64 ((m : Int) + 1) = ((m + 1 : Nat) : Int) := by unfold wrap64; omega
    have HM := am_ (show m < n by omega)
    have HH := am_ H
    have HP0 := am_ hb0
    clear H hb0 hm hj
    go_upto_region 4 with (fail)
    rw [em]
    cases b with
    | true =>
     have H' : Aside0 (sort_Search.l0 P k1 i m = some r) := ⟨by have h := HH.out; rw [if_pos rfl] at h; exact h⟩
     go_wp2_with (first | ((with_reducible refine Calls.mono (hP'.out wr m true HM.out HB.out HP0.out) ?_); rintro e w10 ⟨rfl, hb⟩; have n1_ := am_ (below_step HB.out hb); clear HB; have HB := n1_; clear n1_ hb))
     go_roundg k1
     case measure => omega
     case rel => exact ⟨i, m, rs_, rs_, ⟨by have := HM.out; have := HJ.out; omega⟩, H', ⟨bl_⟩⟩
    | false =>
     have H' : Aside0 (sort_Search.l0 P k1 (m + 1) j = some r) := ⟨by have h := HH.out; rw [if_neg (by decide)] at h; exact h⟩
     go_wp2_with (first | ((with_reducible refine Calls.mono (hP'.out wr m false HM.out HB.out HP0.out) ?_); rintro e w10 ⟨rfl, hb⟩; have n1_ := am_ (below_step HB.out hb); clear HB; have HB := n1_; clear n1_ hb))
     go_roundg k1
     case measure => omega
     case rel => exact ⟨m + 1, j, (by rw [← ew]), rs_, HJ, H', ⟨bl_⟩⟩
   ·rw [if_neg c] at H
    obtain rfl := Option.some.inj H
    go_wp2
    go_ret
    exact ⟨rf_, bl_⟩
set_option maxHeartbeats 4000000 in
theorem impl_sampleAt_1.calls (A0 : Option Addr) (c0 : Nat) (l0 : List (S37)) (a1 : Int) (gn gm : Nat) (I : Int) (b : Bool) (w : World) (hc1 : w.cell? ⟨gn, 0, none⟩ = some (.slice A0 l0.length c0)) (hc2 : w.cell? ⟨gm, 0, none⟩ = some (.int .i64 a1)) (hr0 : Kd.C k37 w A0 l0.length l0) (h0 : 0 ≤ I) (h1 : I < (l0.length : Int)) (hb : decide (a1 < (rd_T37 l0 I).f0) = b) :
  Calls Try.prog 118 #[.int .i64 I, .pointer (some ⟨gn, 0, none⟩), .pointer (some ⟨gm, 0, none⟩)] w fun e w' => e = .returned (.bool b) ∧ Below w.heap.size w w' := by
 have hu := Try.underlying37
 have HB := am_ (Below.refl w.heap.size w)
 obtain ⟨ad, e_, hx_0, hx_1⟩ := at_T37 hr0 I h0 h1
 cases e_
 have p_ := eq_true h0
 have q_ := eq_true h1
 clear h0 h1 hr0
 go_enter Try.func118, Try.ntmps118
 go_wp2
 repeat (go_quiet (fail); try go_wp2)
 go_ret
 exact ⟨rf_, bl_⟩
def impl_sampleAt.P (l0 : List (S37)) (a1 : Int) (i : Nat) : Option Bool := if i < l0.length then some (decide (a1 < (rd_T37 l0 (i : Int)).f0)) else none
def impl_sampleAt.f (k : Nat) (l0 : List (S37)) (a1 a2 : Int) : Option (Int × Int × Bool) := if l0.length ≤ 4611686018427387904 then ((sort_Search.l0 (impl_sampleAt.P l0 a1) k 0 l0.length).bind fun n => (if (n : Int) = 0 then some (0, 0, false) else (if n ≤ l0.length then (if (rd_T37 l0 ((n : Int) - 1)).f0 < wrap64 (a1 - a2) then some (0, 0, false) else (if (rd_T37 l0 ((n : Int) - 1)).f1 = -9223372036854775808 then some (0, 0, false) else some ((rd_T37 l0 ((n : Int) - 1)).f0, (rd_T37 l0 ((n : Int) - 1)).f1, true))) else none))) else none
theorem impl_sampleAt.mono : ∀ a0 a1 a2 k, LeO (impl_sampleAt.f k a0 a1 a2) (impl_sampleAt.f (k + 1) a0 a1 a2) := by
 intro a0 a1 a2 k
 unfold impl_sampleAt.f
 exact LeO.ite (LeO.bind (sort_Search.mono _ _ (fun _ => LeO.refl _) k _ _) (fun _ => LeO.refl _)) (LeO.none _)
set_option maxHeartbeats 8000000 in
theorem impl_sampleAt.calls (k : Nat) (A0 : Option Addr) (c0 : Nat) (l0 : List (S37)) (a1 : Int) (a2 : Int) (r1 : Int) (r2 : Int) (r3 : Bool) (w : World) (hr0 : Kd.C k37 w A0 l0.length l0) (hc0 : l0.length ≤ c0) (h : impl_sampleAt.f k l0 a1 a2 = some (r1, r2, r3)) :
  Calls Try.prog 78 #[.slice A0 l0.length c0, .int .i64 a1, .int .i64 a2] w fun e w' => e = .returned (.tuple #[.agg #[.int .i64 r1, .int .i64 r2], .bool r3]) ∧ Below w.heap.size w w' := by
 have hu := Try.underlying37
 have HR0 := am_ hr0
 clear hr0
 have HB := am_ (Below.refl w.heap.size w)
 unfold impl_sampleAt.f at h
 by_cases hl : l0.length ≤ 4611686018427387904
 ·rw [if_pos hl] at h
  obtain ⟨n, hs, H⟩ := Option.bind_eq_some_iff.mp h
  clear h
  have HS := am_ hs
  have HL := am_ hl
  clear hs hl
  have hse : ∀ (W : World) (gn gm : Nat), W.cell? ⟨gn, 0, none⟩ = some (.slice A0 l0.length c0) → W.cell? ⟨gm, 0, none⟩ = some (.int .i64 a1) → Kd.C k37 W A0 l0.length l0 → Calls Try.prog 117 #[.int .i64 (l0.length : Int), .func (.func 118) #[] #[.pointer (some ⟨gn, 0, none⟩), .pointer (some ⟨gm, 0, none⟩)]] W fun e w' => e = .returned (.int .i64 (n : Int)) ∧ Below W.heap.size W w' := by
   intro W gn gm h1 h2 h3
   refine sort_Search.calls k (impl_sampleAt.P l0 a1) 118 #[.pointer (some ⟨gn, 0, none⟩), .pointer (some ⟨gm, 0, none⟩)] (fun args w => enters_ Try.func118 (by kernel_rfl) rfl args w) l0.length n W HL.out ?_ HS.out
   intro V i b hi hV hb
   unfold impl_sampleAt.P at hb
   rw [if_pos hi] at hb
   exact impl_sampleAt_1.calls A0 c0 l0 a1 gn gm (i : Int) b V (kp_ ⟨hV⟩ h1) (kp_ ⟨hV⟩ h2) (Kd.C_below h3 hV) (by omega) (by omega) (Option.some.inj hb)
  have HSE := am_ hse
  clear hse
  obtain ⟨N, hN⟩ : ∃ N : Int, (n : Int) = N := ⟨_, rfl⟩
  rw [hN] at H HSE
  have HC := hc0
  by_cases c5 : N = 0
  ·rw [if_pos c5] at H
   have c5b0 : (N == 0) = true := beq_iff_eq.mpr c5
   clear c5 HS
   simp only [Option.some.injEq, Prod.mk.injEq] at H
   obtain ⟨rfl, rfl, rfl⟩ := H
   go_enter Try.func78, Try.ntmps78
   go_wp2_with (first | ((with_reducible refine gate_dst (N := 3) rfl ?_); refine box_event ?hg (N := 3) ?hd (cs := #[.slice A0 l0.length c0]) (t := 40) ?hr ?_; (case hd => rfl); (case hg => rfl); (case hr => first | (go_simp; done) | (go_simp; rfl)); intro gb3 hg w3 hbox hb; have n1_ := am_ (below_step bl_ hb); have BK3 := am_ hbox; clear HB; have HB := n1_; clear n1_ hb hbox hg) | ((with_reducible refine gate_dst (N := 4) rfl ?_); refine box_event ?hg (N := 4) ?hd (cs := #[.int .i64 a1]) (t := 3) ?hr ?_; (case hd => rfl); (case hg => rfl); (case hr => first | (go_simp; done) | (go_simp; rfl)); intro gb4 hg w4 hbox hb; have n1_ := am_ (below_step bl_ hb); have n2_ := am_ (blk_below (g := gb3) BK3.out hb); have BK4 := am_ hbox; clear HB BK3; have HB := n1_; have BK3 := n2_; clear n1_ n2_ hb hbox hg) | ((with_reducible refine gate_dst (N := 6) rfl ?_); refine box_event ?hg (N := 6) ?hd (cs := #[.int .i64 0, .int .i64 0]) (t := 37) ?hr ?_; (case hd => rfl); (case hg => rfl); (case hr => first | (go_simp; done) | (go_simp; rfl)); intro gb6 hg w6 hbox hb; have n1_ := am_ (below_step bl_ hb); have n2_ := am_ (blk_below (g := gb3) BK3.out hb); have n3_ := am_ (blk_below (g := gb4) BK4.out hb); have n4_ := am_ (gs_ hg : w.heap.size ≤ gb6); have BK6 := am_ hbox; clear HB BK3 BK4; have HB := n1_; have BK3 := n2_; have BK4 := n3_; have GE6 := n4_; clear n1_ n2_ n3_ n4_ hb hbox hg; have hcz1_0 := bc1_0 BK3) | (go_at_call 117; refine (HSE.out w6 gb3 gb4 (bc1_0 BK3) (bc1_0 BK4) (Kd.C_below HR0.out HB.out)).mono ?_; rintro e w7 ⟨rfl, hb⟩; have n1_ := am_ (below_step HB.out hb); have n2_ := am_ (blk_below (g := gb3) BK3.out hb); have n3_ := am_ (blk_below (g := gb4) BK4.out hb); have n4_ := am_ (blk_below (g := gb6) BK6.out hb); clear HB BK3 BK4 BK6; have HB := n1_; have BK3 := n2_; have BK4 := n3_; have BK6 := n4_; clear n1_ n2_ n3_ n4_ hb; have hcz2_0 := bc1_0 BK3; have hcz3_0 := bc1_0 BK4; have hcz4_0 := bc2_0 BK6; have hcz4_1 := bc2_1 BK6; have hfz4_0 := bf_ BK6 0; have hfz4_1 := bf_ BK6 1))
   repeat (go_quiet (fail); try go_wp2)
   refine bodyPost_ret (results_ct rfl _ _ gb6 37 #[.int .i64 (0), .int .i64 (0)] (0, 0) _ rfl (by (with_reducible repeat (first | refine blk_drewN ?_ _ | refine blk_drew ?_ | refine blk_alloc ?_ _)); refine blk_put (cs := #[.int .i64 (0), .int .i64 0]) ?_ 1 _ rfl; (with_reducible repeat (first | refine blk_drewN ?_ _ | refine blk_drew ?_ | refine blk_alloc ?_ _)); refine blk_put (cs := #[.int .i64 0, .int .i64 0]) ?_ 0 _ rfl; (with_reducible repeat (first | refine blk_drewN ?_ _ | refine blk_drew ?_ | refine blk_alloc ?_ _)); exact BK6.out) Try.underlying37 rfl (by kernel_rfl)) rfl ?_
   exact ⟨rf_, bg_⟩
  ·rw [if_neg c5] at H
   have c5b0 : (N == 0) = false := beq_eq_false_iff_ne.mpr c5
   by_cases c6 : n ≤ l0.length
   ·rw [if_pos c6] at H
    obtain ⟨ji, hji⟩ : ∃ j : Int, N - 1 = j := ⟨_, rfl⟩
    rw [hji] at H
    have hl2 := HL.out
    have hjw : IntKind.i64.wrap (N - 1) = ji := by rw [IntKind.wrap_i64]; omega
    have hjv : wrap64 (N - 1) = ji := by unfold wrap64; omega
    have h0 : 0 ≤ ji := by omega
    have h1 : ji < (l0.length : Int) := by omega
    obtain ⟨ad, e_, hx_0, hx_1⟩ := at_T37 HR0.out ji h0 h1
    cases e_
    have p_ := eq_true h0
    have q_ := eq_true h1
    clear h0 h1 hl2 HL c6 c5 HS
    by_cases c13 : (rd_T37 l0 ji).f0 < wrap64 (a1 - a2)
    ·rw [if_pos c13] at H
     have c13b0 : decide ((rd_T37 l0 ji).f0 < wrap64 (a1 - a2)) = true := decide_eq_true c13
     clear c13
     simp only [Option.some.injEq, Prod.mk.injEq] at H
     obtain ⟨rfl, rfl, rfl⟩ := H
     clear hji hN
     go_enter Try.func78, Try.ntmps78
     go_wp2_with (first | ((with_reducible refine gate_dst (N := 3) rfl ?_); refine box_event ?hg (N := 3) ?hd (cs := #[.slice (some ad) l0.length c0]) (t := 40) ?hr ?_; (case hd => rfl); (case hg => rfl); (case hr => first | (go_simp; done) | (go_simp; rfl)); intro gb3 hg w3 hbox hb; have n1_ := am_ (below_step bl_ hb); have BK3 := am_ hbox; clear HB; have HB := n1_; clear n1_ hb hbox hg) | ((with_reducible refine gate_dst (N := 4) rfl ?_); refine box_event ?hg (N := 4) ?hd (cs := #[.int .i64 a1]) (t := 3) ?hr ?_; (case hd => rfl); (case hg => rfl); (case hr => first | (go_simp; done) | (go_simp; rfl)); intro gb4 hg w4 hbox hb; have n1_ := am_ (below_step bl_ hb); have n2_ := am_ (blk_below (g := gb3) BK3.out hb); have BK4 := am_ hbox; clear HB BK3; have HB := n1_; have BK3 := n2_; clear n1_ n2_ hb hbox hg) | ((with_reducible refine gate_dst (N := 6) rfl ?_); refine box_event ?hg (N := 6) ?hd (cs := #[.int .i64 0, .int .i64 0]) (t := 37) ?hr ?_; (case hd => rfl); (case hg => rfl); (case hr => first | (go_simp; done) | (go_simp; rfl)); intro gb6 hg w6 hbox hb; have n1_ := am_ (below_step bl_ hb); have n2_ := am_ (blk_below (g := gb3) BK3.out hb); have n3_ := am_ (blk_below (g := gb4) BK4.out hb); have n4_ := am_ (gs_ hg : w.heap.size ≤ gb6); have BK6 := am_ hbox; clear HB BK3 BK4; have HB := n1_; have BK3 := n2_; have BK4 := n3_; have GE6 := n4_; clear n1_ n2_ n3_ n4_ hb hbox hg; have hcz1_0 := bc1_0 BK3) | (go_at_call 117; refine (HSE.out w6 gb3 gb4 (bc1_0 BK3) (bc1_0 BK4) (Kd.C_below HR0.out HB.out)).mono ?_; rintro e w7 ⟨rfl, hb⟩; have n1_ := am_ (below_step HB.out hb); have n2_ := am_ (blk_below (g := gb3) BK3.out hb); have n3_ := am_ (blk_below (g := gb4) BK4.out hb); have n4_ := am_ (blk_below (g := gb6) BK6.out hb); clear HB BK3 BK4 BK6; have HB := n1_; have BK3 := n2_; have BK4 := n3_; have BK6 := n4_; clear n1_ n2_ n3_ n4_ hb; have hcz2_0 := bc1_0 BK3; have hcz3_0 := bc1_0 BK4; have hcz4_0 := bc2_0 BK6; have hcz4_1 := bc2_1 BK6; have hfz4_0 := bf_ BK6 0; have hfz4_1 := bf_ BK6 1; have hx7_0 := kp_ HB hx_0; have hx7_1 := kp_ HB hx_1))
     repeat (go_quiet (fail); try go_wp2)
     refine bodyPost_ret (results_ct rfl _ _ gb6 37 #[.int .i64 (0), .int .i64 (0)] (0, 0) _ rfl (by (with_reducible repeat (first | refine blk_drewN ?_ _ | refine blk_drew ?_ | refine blk_alloc ?_ _)); refine blk_put (cs := #[.int .i64 (0), .int .i64 0]) ?_ 1 _ rfl; (with_reducible repeat (first | refine blk_drewN ?_ _ | refine blk_drew ?_ | refine blk_alloc ?_ _)); refine blk_put (cs := #[.int .i64 0, .int .i64 0]) ?_ 0 _ rfl; (with_reducible repeat (first | refine blk_drewN ?_ _ | refine blk_drew ?_ | refine blk_alloc ?_ _)); exact BK6.out) Try.underlying37 rfl (by kernel_rfl)) rfl ?_
     exact ⟨rf_, bg_⟩
    ·rw [if_neg c13] at H
     have c13b0 : decide ((rd_T37 l0 ji).f0 < wrap64 (a1 - a2)) = false := decide_eq_false c13
     clear c13
     by_cases c21 : (rd_T37 l0 ji).f1 = -9223372036854775808
     ·rw [if_pos c21] at H
      have c21b0 : ((rd_T37 l0 ji).f1 == (-9223372036854775808)) = true := beq_iff_eq.mpr c21
      clear c21
      simp only [Option.some.injEq, Prod.mk.injEq] at H
      obtain ⟨rfl, rfl, rfl⟩ := H
      clear hji hN
      go_enter Try.func78, Try.ntmps78
      go_wp2_with (first | ((with_reducible refine gate_dst (N := 3) rfl ?_); refine box_event ?hg (N := 3) ?hd (cs := #[.slice (some ad) l0.length c0]) (t := 40) ?hr ?_; (case hd => rfl); (case hg => rfl); (case hr => first | (go_simp; done) | (go_simp; rfl)); intro gb3 hg w3 hbox hb; have n1_ := am_ (below_step bl_ hb); have BK3 := am_ hbox; clear HB; have HB := n1_; clear n1_ hb hbox hg) | ((with_reducible refine gate_dst (N := 4) rfl ?_); refine box_event ?hg (N := 4) ?hd (cs := #[.int .i64 a1]) (t := 3) ?hr ?_; (case hd => rfl); (case hg => rfl); (case hr => first | (go_simp; done) | (go_simp; rfl)); intro gb4 hg w4 hbox hb; have n1_ := am_ (below_step bl_ hb); have n2_ := am_ (blk_below (g := gb3) BK3.out hb); have BK4 := am_ hbox; clear HB BK3; have HB := n1_; have BK3 := n2_; clear n1_ n2_ hb hbox hg) | ((with_reducible refine gate_dst (N := 6) rfl ?_); refine box_event ?hg (N := 6) ?hd (cs := #[.int .i64 0, .int .i64 0]) (t := 37) ?hr ?_; (case hd => rfl); (case hg => rfl); (case hr => first | (go_simp; done) | (go_simp; rfl)); intro gb6 hg w6 hbox hb; have n1_ := am_ (below_step bl_ hb); have n2_ := am_ (blk_below (g := gb3) BK3.out hb); have n3_ := am_ (blk_below (g := gb4) BK4.out hb); have n4_ := am_ (gs_ hg : w.heap.size ≤ gb6); have BK6 := am_ hbox; clear HB BK3 BK4; have HB := n1_; have BK3 := n2_; have BK4 := n3_; have GE6 := n4_; clear n1_ n2_ n3_ n4_ hb hbox hg; have hcz1_0 := bc1_0 BK3) | (go_at_call 117; refine (HSE.out w6 gb3 gb4 (bc1_0 BK3) (bc1_0 BK4) (Kd.C_below HR0.out HB.out)).mono ?_; rintro e w7 ⟨rfl, hb⟩; have n1_ := am_ (below_step HB.out hb); have n2_ := am_ (blk_below (g := gb3) BK3.out hb); have n3_ := am_ (blk_below (g := gb4) BK4.out hb); have n4_ := am_ (blk_below (g := gb6) BK6.out hb); clear HB BK3 BK4 BK6; have HB := n1_; have BK3 := n2_; have BK4 := n3_; have BK6 := n4_; clear n1_ n2_ n3_ n4_ hb; have hcz2_0 := bc1_0 BK3; have hcz3_0 := bc1_0 BK4; have hcz4_0 := bc2_0 BK6; have hcz4_1 := bc2_1 BK6; have hfz4_0 := bf_ BK6 0; have hfz4_1 := bf_ BK6 1; have hx7_0 := kp_ HB hx_0; have hx7_1 := kp_ HB hx_1))
      repeat (go_quiet (fail); try go_wp2)
      refine bodyPost_ret (results_ct rfl _ _ gb6 37 #[.int .i64 (0), .int .i64 (0)] (0, 0) _ rfl (by (with_reducible repeat (first | refine blk_drewN ?_ _ | refine blk_drew ?_ | refine blk_alloc ?_ _)); refine blk_put (cs := #[.int .i64 (0), .int .i64 0]) ?_ 1 _ rfl; (with_reducible repeat (first | refine blk_drewN ?_ _ | refine blk_drew ?_ | refine blk_alloc ?_ _)); refine blk_put (cs := #[.int .i64 0, .int .i64 0]) ?_ 0 _ rfl; (with_reducible repeat (first | refine blk_drewN ?_ _ | refine blk_drew ?_ | refine blk_alloc ?_ _)); exact BK6.out) Try.underlying37 rfl (by kernel_rfl)) rfl ?_
      exact ⟨rf_, bg_⟩
     ·rw [if_neg c21] at H
      have c21b0 : ((rd_T37 l0 ji).f1 == (-9223372036854775808)) = false := beq_eq_false_iff_ne.mpr c21
      clear c21
      simp only [Option.some.injEq, Prod.mk.injEq] at H
      obtain ⟨rfl, rfl, rfl⟩ := H
      clear hji hN
      go_enter Try.func78, Try.ntmps78
      go_wp2_with (first | ((with_reducible refine gate_dst (N := 3) rfl ?_); refine box_event ?hg (N := 3) ?hd (cs := #[.slice (some ad) l0.length c0]) (t := 40) ?hr ?_; (case hd => rfl); (case hg => rfl); (case hr => first | (go_simp; done) | (go_simp; rfl)); intro gb3 hg w3 hbox hb; have n1_ := am_ (below_step bl_ hb); have BK3 := am_ hbox; clear HB; have HB := n1_; clear n1_ hb hbox hg) | ((with_reducible refine gate_dst (N := 4) rfl ?_); refine box_event ?hg (N := 4) ?hd (cs := #[.int .i64 a1]) (t := 3) ?hr ?_; (case hd => rfl); (case hg => rfl); (case hr => first | (go_simp; done) | (go_simp; rfl)); intro gb4 hg w4 hbox hb; have n1_ := am_ (below_step bl_ hb); have n2_ := am_ (blk_below (g := gb3) BK3.out hb); have BK4 := am_ hbox; clear HB BK3; have HB := n1_; have BK3 := n2_; clear n1_ n2_ hb hbox hg) | ((with_reducible refine gate_dst (N := 6) rfl ?_); refine box_event ?hg (N := 6) ?hd (cs := #[.int .i64 0, .int .i64 0]) (t := 37) ?hr ?_; (case hd => rfl); (case hg => rfl); (case hr => first | (go_simp; done) | (go_simp; rfl)); intro gb6 hg w6 hbox hb; have n1_ := am_ (below_step bl_ hb); have n2_ := am_ (blk_below (g := gb3) BK3.out hb); have n3_ := am_ (blk_below (g := gb4) BK4.out hb); have n4_ := am_ (gs_ hg : w.heap.size ≤ gb6); have BK6 := am_ hbox; clear HB BK3 BK4; have HB := n1_; have BK3 := n2_; have BK4 := n3_; have GE6 := n4_; clear n1_ n2_ n3_ n4_ hb hbox hg; have hcz1_0 := bc1_0 BK3) | (go_at_call 117; refine (HSE.out w6 gb3 gb4 (bc1_0 BK3) (bc1_0 BK4) (Kd.C_below HR0.out HB.out)).mono ?_; rintro e w7 ⟨rfl, hb⟩; have n1_ := am_ (below_step HB.out hb); have n2_ := am_ (blk_below (g := gb3) BK3.out hb); have n3_ := am_ (blk_below (g := gb4) BK4.out hb); have n4_ := am_ (blk_below (g := gb6) BK6.out hb); clear HB BK3 BK4 BK6; have HB := n1_; have BK3 := n2_; have BK4 := n3_; have BK6 := n4_; clear n1_ n2_ n3_ n4_ hb; have hcz2_0 := bc1_0 BK3; have hcz3_0 := bc1_0 BK4; have hcz4_0 := bc2_0 BK6; have hcz4_1 := bc2_1 BK6; have hfz4_0 := bf_ BK6 0; have hfz4_1 := bf_ BK6 1; have hx7_0 := kp_ HB hx_0; have hx7_1 := kp_ HB hx_1))
      repeat (go_quiet (fail); try go_wp2)
      refine bodyPost_ret (results_ct rfl _ _ gb6 37 #[.int .i64 ((rd_T37 l0 ji).f0), .int .i64 ((rd_T37 l0 ji).f1)] (0, 0) _ rfl (by (with_reducible repeat (first | refine blk_drewN ?_ _ | refine blk_drew ?_ | refine blk_alloc ?_ _)); refine blk_put (cs := #[.int .i64 ((rd_T37 l0 ji).f0), .int .i64 0]) ?_ 1 _ rfl; (with_reducible repeat (first | refine blk_drewN ?_ _ | refine blk_drew ?_ | refine blk_alloc ?_ _)); refine blk_put (cs := #[.int .i64 0, .int .i64 0]) ?_ 0 _ rfl; (with_reducible repeat (first | refine blk_drewN ?_ _ | refine blk_drew ?_ | refine blk_alloc ?_ _)); exact BK6.out) Try.underlying37 rfl (by kernel_rfl)) rfl ?_
      exact ⟨rf_, bg_⟩
   ·rw [if_neg c6] at H
    cases H
 ·rw [if_neg hl] at h
  cases h

/-! ### impl_SampleAt: function 27 -/
def impl_SampleAt.f (k : Nat) (l0 : List (S37)) (a1 : Int) (a2 : Int) : Option (Int × Int × Bool) := (impl_GoodSamples.f k l0).bind fun t1002 => (if t1002 = true then ((impl_isTime.f a1).bind fun t1003 => (if t1003 = true then ((impl_isTime.f a2).bind fun t1004 => (if t1004 = true then ((impl_sampleAt.f k l0 a1 a2).bind fun bt1005 => (some (bt1005.1, bt1005.2.1, bt1005.2.2))) else (some (0, 0, false)))) else (some (0, 0, false)))) else (some (0, 0, false)))
theorem impl_SampleAt.mono : ∀ a0 a1 a2 k, LeO (impl_SampleAt.f k a0 a1 a2) (impl_SampleAt.f (k + 1) a0 a1 a2) := by
 intro a0 a1 a2 k
 unfold impl_SampleAt.f
 repeat' first
   | with_reducible first | exact impl_GoodSamples.mono _ _ | exact impl_sampleAt.mono _ _ _ _ | exact LeO.refl _ | exact LeO.none _ | refine LeO.ite ?_ ?_ | refine LeO.bind ?_ (fun _ => ?_)
   | exact impl_GoodSamples.mono _ _
   | exact impl_sampleAt.mono _ _ _ _
   | exact LeO.none _
   | refine LeO.ite ?_ ?_
   | refine LeO.bind ?_ (fun _ => ?_)
set_option maxHeartbeats 8000000 in
set_option maxRecDepth 100000 in
theorem impl_SampleAt.calls (k : Nat) (A0 : Option Addr) (c0 : Nat) (l0 : List (S37)) (a1 : Int) (a2 : Int) (r1 : Int) (r2 : Int) (r3 : Bool) (w : World) (hr0 : Kd.C k37 w A0 l0.length l0) (hc0 : l0.length ≤ c0) (h : impl_SampleAt.f k l0 a1 a2 = some (r1, r2, r3)) :
  Calls Try.prog 27 #[.slice A0 l0.length c0, .int .i64 a1, .int .i64 a2] w fun e w' => e = .returned (.tuple #[.agg #[.int .i64 r1, .int .i64 r2], .bool r3]) ∧ Below w.heap.size w w' := by
 have hu37 := Try.underlying37
 have HR0 := am_ hr0
 have HC0 := am_ hc0
 clear hr0 hc0
 have HB := am_ (Below.refl w.heap.size w)
 have H : ((impl_GoodSamples.f k l0).bind fun t1002 => (if t1002 = true then ((impl_isTime.f a1).bind fun t1003 => (if t1003 = true then ((impl_isTime.f a2).bind fun t1004 => (if t1004 = true then ((impl_sampleAt.f k l0 a1 a2).bind fun bt1005 => (some (bt1005.1, bt1005.2.1, bt1005.2.2))) else (some (0, 0, false)))) else (some (0, 0, false)))) else (some (0, 0, false)))) = some (r1, r2, r3) := h
 clear h
 replace H := Option.bind_eq_some_iff.mp H
 obtain ⟨t1002, A40, H⟩ := H
 replace H : (if t1002 = true then ((impl_isTime.f a1).bind fun t1003 => (if t1003 = true then ((impl_isTime.f a2).bind fun t1004 => (if t1004 = true then ((impl_sampleAt.f k l0 a1 a2).bind fun bt1005 => (some (bt1005.1, bt1005.2.1, bt1005.2.2))) else (some (0, 0, false)))) else (some (0, 0, false)))) else (some (0, 0, false))) = some (r1, r2, r3) := H
 have A4 := am_ A40
 clear A40
 by_cases c5 : t1002 = true
 ·subst c5
  have H1 : ((impl_isTime.f a1).bind fun t1003 => (if t1003 = true then ((impl_isTime.f a2).bind fun t1004 => (if t1004 = true then ((impl_sampleAt.f k l0 a1 a2).bind fun bt1005 => (some (bt1005.1, bt1005.2.1, bt1005.2.2))) else (some (0, 0, false)))) else (some (0, 0, false)))) = some (r1, r2, r3) := by rw [if_pos rfl] at H; exact H
  clear H
  have H := H1
  clear H1
  replace H := Option.bind_eq_some_iff.mp H
  obtain ⟨t1003, A60, H⟩ := H
  replace H : (if t1003 = true then ((impl_isTime.f a2).bind fun t1004 => (if t1004 = true then ((impl_sampleAt.f k l0 a1 a2).bind fun bt1005 => (some (bt1005.1, bt1005.2.1, bt1005.2.2))) else (some (0, 0, false)))) else (some (0, 0, false))) = some (r1, r2, r3) := H
  have A6 := am_ A60
  clear A60
  by_cases c7 : t1003 = true
  ·subst c7
   have H1 : ((impl_isTime.f a2).bind fun t1004 => (if t1004 = true then ((impl_sampleAt.f k l0 a1 a2).bind fun bt1005 => (some (bt1005.1, bt1005.2.1, bt1005.2.2))) else (some (0, 0, false)))) = some (r1, r2, r3) := by rw [if_pos rfl] at H; exact H
   clear H
   have H := H1
   clear H1
   replace H := Option.bind_eq_some_iff.mp H
   obtain ⟨t1004, A80, H⟩ := H
   replace H : (if t1004 = true then ((impl_sampleAt.f k l0 a1 a2).bind fun bt1005 => (some (bt1005.1, bt1005.2.1, bt1005.2.2))) else (some (0, 0, false))) = some (r1, r2, r3) := H
   have A8 := am_ A80
   clear A80
   by_cases c9 : t1004 = true
   ·subst c9
    have H1 : ((impl_sampleAt.f k l0 a1 a2).bind fun bt1005 => (some (bt1005.1, bt1005.2.1, bt1005.2.2))) = some (r1, r2, r3) := by rw [if_pos rfl] at H; exact H
    clear H
    have H := H1
    clear H1
    replace H := Option.bind_eq_some_iff.mp H
    obtain ⟨⟨t1005, t1006, t1007⟩, A100, H⟩ := H
    replace H : (some (t1005, t1006, t1007)) = some (r1, r2, r3) := H
    have A10 := am_ A100
    clear A100
    simp only [Option.some.injEq, Prod.mk.injEq] at H
    obtain ⟨rfl, rfl, rfl⟩ := H
    go_enter Try.func27, Try.ntmps27
    go_wp2_with (first | ((with_reducible refine gate_dst (N := 6) rfl ?_); refine box_event ?hg (N := 6) ?hd (cs := #[.int .i64 0, .int .i64 0]) (t := 37) ?hr ?_; (case hd => rfl); (case hg => rfl); (case hr => first | (go_simp; done) | (go_simp; rfl)); intro gb1001 hg w11 hbox hb; have n0_ := am_ (below_step bl_ hb); have n1_ := am_ (hbox); have n2_ := am_ (gs_ hg : w.heap.size ≤ gb1001); have n3_ := n2_; clear HB; have HB := n0_; have BK1001 := n1_; have GW1001 := n2_; have GE1001 := n3_; clear n0_ n1_ n2_ n3_; clear hb hbox hg) | ((with_reducible refine gate_callee (f := 76) rfl ?_); refine goesL_ (some 9) rfl rfl Try.func76 (by kernel_rfl) rfl #[.slice A0 l0.length c0] rfl ag_ ?_; (with_reducible refine (impl_GoodSamples.calls k _ _ l0 true _ ?side1 ?side2 A4.out).mono ?_); (case side1 => exact cc_ (Kd.C_below HR0.out HB.out)); (case side2 => exact HC0.out); rintro e w12 ⟨rfl, hb⟩; refine ⟨_, rfl, ?_⟩; have n0_ := am_ (blk_below (g := gb1001) (vk_ BK1001) hb); have n1_ := am_ (below_step bg_ hb); clear BK1001; clear HB; have BK1001 := n0_; have HB := n1_; clear n0_ n1_; (try clear hb); (try clear hb2); (try clear hk); (try clear hi)) | (go_at_call 77; (with_reducible refine (impl_isTime.calls a1 true _ A6.out).mono ?_); rintro e w' ⟨rfl, ⟨nd, rfl⟩⟩; (try (rw [drewN_self w12]; generalize hq_ : World.drewN w12 _ = w12; have n0_ : Aside0 (w12.heap[gb1001]? = some (.cells #[.int .i64 0, .int .i64 0] 37 (0, 0))) := ⟨by rw [← hq_]; exact (vk_ BK1001)⟩; have n1_ : Aside0 (Below w.heap.size w w12) := ⟨by rw [← hq_]; exact bg_⟩; clear BK1001 HB hq_; have BK1001 := n0_; have HB := n1_; clear n0_ n1_))) | (go_at_call 77; (with_reducible refine (impl_isTime.calls a2 true _ A8.out).mono ?_); rintro e w' ⟨rfl, ⟨nd, rfl⟩⟩; (try (rw [drewN_self w12]; generalize hq_ : World.drewN w12 _ = w12; have n0_ : Aside0 (w12.heap[gb1001]? = some (.cells #[.int .i64 0, .int .i64 0] 37 (0, 0))) := ⟨by rw [← hq_]; exact (vk_ BK1001)⟩; have n1_ : Aside0 (Below w.heap.size w w12) := ⟨by rw [← hq_]; exact bg_⟩; clear BK1001 HB hq_; have BK1001 := n0_; have HB := n1_; clear n0_ n1_))) | ((with_reducible refine gate_callee (f := 78) rfl ?_); refine goesL_ (some 25) rfl rfl Try.func78 (by kernel_rfl) rfl #[.slice A0 l0.length c0, .int .i64 a1, .int .i64 a2] rfl ag_ ?_; (with_reducible refine (impl_sampleAt.calls k _ _ l0 a1 a2 t1005 t1006 t1007 _ ?side1 ?side2 A10.out).mono ?_); (case side1 => exact cc_ (Kd.C_below HR0.out HB.out)); (case side2 => exact HC0.out); rintro e w13 ⟨rfl, hb⟩; refine ⟨_, rfl, ?_⟩; have n0_ := am_ (blk_below (g := gb1001) (vk_ BK1001) hb); have n1_ := am_ (below_step bg_ hb); clear BK1001; clear HB; have BK1001 := n0_; have HB := n1_; clear n0_ n1_; (try clear hb); (try clear hb2); (try clear hk); (try clear hi); have hcz14_0 := bc2_0 BK1001; have hcz14_1 := bc2_1 BK1001; have hfz14_0 := bf_ BK1001 0; have hfz14_1 := bf_ BK1001 1))
    refine bodyPost_ret (results_ct rfl _ _ gb1001 37 #[.int .i64 t1005, .int .i64 t1006] (0, 0) _ rfl (by (with_reducible repeat (first | refine blk_drewN ?_ _ | refine blk_drew ?_ | refine blk_alloc ?_ _)); refine blk_put (cs := #[.int .i64 t1005, .int .i64 0]) ?_ 1 _ rfl; (with_reducible repeat (first | refine blk_drewN ?_ _ | refine blk_drew ?_ | refine blk_alloc ?_ _)); refine blk_put (cs := #[.int .i64 0, .int .i64 0]) ?_ 0 _ rfl; (with_reducible repeat (first | refine blk_drewN ?_ _ | refine blk_drew ?_ | refine blk_alloc ?_ _)); exact BK1001.out) Try.underlying37 rfl (by kernel_rfl)) rfl ?_
    exact ⟨rf_, bg_⟩
   ·replace c9 := Bool.eq_false_iff.mpr c9
    subst c9
    have H1 : (some (0, 0, false)) = some (r1, r2, r3) := by rw [if_neg (show ¬ (false = true) by decide)] at H; exact H
    clear H
    have H := H1
    clear H1
    simp only [Option.some.injEq, Prod.mk.injEq] at H
    obtain ⟨rfl, rfl, rfl⟩ := H
    go_enter Try.func27, Try.ntmps27
    go_wp2_with (first | ((with_reducible refine gate_dst (N := 6) rfl ?_); refine box_event ?hg (N := 6) ?hd (cs := #[.int .i64 0, .int .i64 0]) (t := 37) ?hr ?_; (case hd => rfl); (case hg => rfl); (case hr => first | (go_simp; done) | (go_simp; rfl)); intro gb1001 hg w15 hbox hb; have n0_ := am_ (below_step bl_ hb); have n1_ := am_ (hbox); have n2_ := am_ (gs_ hg : w.heap.size ≤ gb1001); have n3_ := n2_; clear HB; have HB := n0_; have BK1001 := n1_; have GW1001 := n2_; have GE1001 := n3_; clear n0_ n1_ n2_ n3_; clear hb hbox hg) | ((with_reducible refine gate_callee (f := 76) rfl ?_); refine goesL_ (some 9) rfl rfl Try.func76 (by kernel_rfl) rfl #[.slice A0 l0.length c0] rfl ag_ ?_; (with_reducible refine (impl_GoodSamples.calls k _ _ l0 true _ ?side1 ?side2 A4.out).mono ?_); (case side1 => exact cc_ (Kd.C_below HR0.out HB.out)); (case side2 => exact HC0.out); rintro e w16 ⟨rfl, hb⟩; refine ⟨_, rfl, ?_⟩; have n0_ := am_ (blk_below (g := gb1001) (vk_ BK1001) hb); have n1_ := am_ (below_step bg_ hb); clear BK1001; clear HB; have BK1001 := n0_; have HB := n1_; clear n0_ n1_; (try clear hb); (try clear hb2); (try clear hk); (try clear hi)) | (go_at_call 77; (with_reducible refine (impl_isTime.calls a1 true _ A6.out).mono ?_); rintro e w' ⟨rfl, ⟨nd, rfl⟩⟩; (try (rw [drewN_self w16]; generalize hq_ : World.drewN w16 _ = w16; have n0_ : Aside0 (w16.heap[gb1001]? = some (.cells #[.int .i64 0, .int .i64 0] 37 (0, 0))) := ⟨by rw [← hq_]; exact (vk_ BK1001)⟩; have n1_ : Aside0 (Below w.heap.size w w16) := ⟨by rw [← hq_]; exact bg_⟩; clear BK1001 HB hq_; have BK1001 := n0_; have HB := n1_; clear n0_ n1_))) | (go_at_call 77; (with_reducible refine (impl_isTime.calls a2 false _ A8.out).mono ?_); rintro e w' ⟨rfl, ⟨nd, rfl⟩⟩; (try (rw [drewN_self w16]; generalize hq_ : World.drewN w16 _ = w16; have n0_ : Aside0 (w16.heap[gb1001]? = some (.cells #[.int .i64 0, .int .i64 0] 37 (0, 0))) := ⟨by rw [← hq_]; exact (vk_ BK1001)⟩; have n1_ : Aside0 (Below w.heap.size w w16) := ⟨by rw [← hq_]; exact bg_⟩; clear BK1001 HB hq_; have BK1001 := n0_; have HB := n1_; clear n0_ n1_)); have hcz17_0 := bc2_0 BK1001; have hcz17_1 := bc2_1 BK1001; have hfz17_0 := bf_ BK1001 0; have hfz17_1 := bf_ BK1001 1))
    refine bodyPost_ret (results_ct rfl _ _ gb1001 37 #[.int .i64 0, .int .i64 0] (0, 0) _ rfl (by (with_reducible repeat (first | refine blk_drewN ?_ _ | refine blk_drew ?_ | refine blk_alloc ?_ _)); refine blk_put (cs := #[.int .i64 0, .int .i64 0]) ?_ 1 _ rfl; (with_reducible repeat (first | refine blk_drewN ?_ _ | refine blk_drew ?_ | refine blk_alloc ?_ _)); refine blk_put (cs := #[.int .i64 0, .int .i64 0]) ?_ 0 _ rfl; (with_reducible repeat (first | refine blk_drewN ?_ _ | refine blk_drew ?_ | refine blk_alloc ?_ _)); exact BK1001.out) Try.underlying37 rfl (by kernel_rfl)) rfl ?_
    exact ⟨rf_, bg_⟩
  ·replace c7 := Bool.eq_false_iff.mpr c7
   subst c7
   have H1 : (some (0, 0, false)) = some (r1, r2, r3) := by rw [if_neg (show ¬ (false = true) by decide)] at H; exact H
   clear H
   have H := H1
   clear H1
   simp only [Option.some.injEq, Prod.mk.injEq] at H
   obtain ⟨rfl, rfl, rfl⟩ := H
   go_enter Try.func27, Try.ntmps27
   go_wp2_with (first | ((with_reducible refine gate_dst (N := 6) rfl ?_); refine box_event ?hg (N := 6) ?hd (cs := #[.int .i64 0, .int .i64 0]) (t := 37) ?hr ?_; (case hd => rfl); (case hg => rfl); (case hr => first | (go_simp; done) | (go_simp; rfl)); intro gb1001 hg w18 hbox hb; have n0_ := am_ (below_step bl_ hb); have n1_ := am_ (hbox); have n2_ := am_ (gs_ hg : w.heap.size ≤ gb1001); have n3_ := n2_; clear HB; have HB := n0_; have BK1001 := n1_; have GW1001 := n2_; have GE1001 := n3_; clear n0_ n1_ n2_ n3_; clear hb hbox hg) | ((with_reducible refine gate_callee (f := 76) rfl ?_); refine goesL_ (some 9) rfl rfl Try.func76 (by kernel_rfl) rfl #[.slice A0 l0.length c0] rfl ag_ ?_; (with_reducible refine (impl_GoodSamples.calls k _ _ l0 true _ ?side1 ?side2 A4.out).mono ?_); (case side1 => exact cc_ (Kd.C_below HR0.out HB.out)); (case side2 => exact HC0.out); rintro e w19 ⟨rfl, hb⟩; refine ⟨_, rfl, ?_⟩; have n0_ := am_ (blk_below (g := gb1001) (vk_ BK1001) hb); have n1_ := am_ (below_step bg_ hb); clear BK1001; clear HB; have BK1001 := n0_; have HB := n1_; clear n0_ n1_; (try clear hb); (try clear hb2); (try clear hk); (try clear hi)) | (go_at_call 77; (with_reducible refine (impl_isTime.calls a1 false _ A6.out).mono ?_); rintro e w' ⟨rfl, ⟨nd, rfl⟩⟩; (try (rw [drewN_self w19]; generalize hq_ : World.drewN w19 _ = w19; have n0_ : Aside0 (w19.heap[gb1001]? = some (.cells #[.int .i64 0, .int .i64 0] 37 (0, 0))) := ⟨by rw [← hq_]; exact (vk_ BK1001)⟩; have n1_ : Aside0 (Below w.heap.size w w19) := ⟨by rw [← hq_]; exact bg_⟩; clear BK1001 HB hq_; have BK1001 := n0_; have HB := n1_; clear n0_ n1_)); have hcz20_0 := bc2_0 BK1001; have hcz20_1 := bc2_1 BK1001; have hfz20_0 := bf_ BK1001 0; have hfz20_1 := bf_ BK1001 1))
   refine bodyPost_ret (results_ct rfl _ _ gb1001 37 #[.int .i64 0, .int .i64 0] (0, 0) _ rfl (by (with_reducible repeat (first | refine blk_drewN ?_ _ | refine blk_drew ?_ | refine blk_alloc ?_ _)); refine blk_put (cs := #[.int .i64 0, .int .i64 0]) ?_ 1 _ rfl; (with_reducible repeat (first | refine blk_drewN ?_ _ | refine blk_drew ?_ | refine blk_alloc ?_ _)); refine blk_put (cs := #[.int .i64 0, .int .i64 0]) ?_ 0 _ rfl; (with_reducible repeat (first | refine blk_drewN ?_ _ | refine blk_drew ?_ | refine blk_alloc ?_ _)); exact BK1001.out) Try.underlying37 rfl (by kernel_rfl)) rfl ?_
   exact ⟨rf_, bg_⟩
 ·replace c5 := Bool.eq_false_iff.mpr c5
  subst c5
  have H1 : (some (0, 0, false)) = some (r1, r2, r3) := by rw [if_neg (show ¬ (false = true) by decide)] at H; exact H
  clear H
  have H := H1
  clear H1
  simp only [Option.some.injEq, Prod.mk.injEq] at H
  obtain ⟨rfl, rfl, rfl⟩ := H
  go_enter Try.func27, Try.ntmps27
  go_wp2_with (first | ((with_reducible refine gate_dst (N := 6) rfl ?_); refine box_event ?hg (N := 6) ?hd (cs := #[.int .i64 0, .int .i64 0]) (t := 37) ?hr ?_; (case hd => rfl); (case hg => rfl); (case hr => first | (go_simp; done) | (go_simp; rfl)); intro gb1001 hg w21 hbox hb; have n0_ := am_ (below_step bl_ hb); have n1_ := am_ (hbox); have n2_ := am_ (gs_ hg : w.heap.size ≤ gb1001); have n3_ := n2_; clear HB; have HB := n0_; have BK1001 := n1_; have GW1001 := n2_; have GE1001 := n3_; clear n0_ n1_ n2_ n3_; clear hb hbox hg) | ((with_reducible refine gate_callee (f := 76) rfl ?_); refine goesL_ (some 9) rfl rfl Try.func76 (by kernel_rfl) rfl #[.slice A0 l0.length c0] rfl ag_ ?_; (with_reducible refine (impl_GoodSamples.calls k _ _ l0 false _ ?side1 ?side2 A4.out).mono ?_); (case side1 => exact cc_ (Kd.C_below HR0.out HB.out)); (case side2 => exact HC0.out); rintro e w22 ⟨rfl, hb⟩; refine ⟨_, rfl, ?_⟩; have n0_ := am_ (blk_below (g := gb1001) (vk_ BK1001) hb); have n1_ := am_ (below_step bg_ hb); clear BK1001; clear HB; have BK1001 := n0_; have HB := n1_; clear n0_ n1_; (try clear hb); (try clear hb2); (try clear hk); (try clear hi); have hcz23_0 := bc2_0 BK1001; have hcz23_1 := bc2_1 BK1001; have hfz23_0 := bf_ BK1001 0; have hfz23_1 := bf_ BK1001 1))
  refine bodyPost_ret (results_ct rfl _ _ gb1001 37 #[.int .i64 0, .int .i64 0] (0, 0) _ rfl (by (with_reducible repeat (first | refine blk_drewN ?_ _ | refine blk_drew ?_ | refine blk_alloc ?_ _)); refine blk_put (cs := #[.int .i64 0, .int .i64 0]) ?_ 1 _ rfl; (with_reducible repeat (first | refine blk_drewN ?_ _ | refine blk_drew ?_ | refine blk_alloc ?_ _)); refine blk_put (cs := #[.int .i64 0, .int .i64 0]) ?_ 0 _ rfl; (with_reducible repeat (first | refine blk_drewN ?_ _ | refine blk_drew ?_ | refine blk_alloc ?_ _)); exact BK1001.out) Try.underlying37 rfl (by kernel_rfl)) rfl ?_
  exact ⟨rf_, bg_⟩

/-! ### laws_FnExactSampleAt: function 5 -/
def laws_FnExactSampleAt.j0 : Nat → List (S90) → List (S37) → Bool → Option (Bool)
 | 0, _, _, _ => none
 | k + 1, x0, x10, x43 => if x43 = true then (none) else ((laws_toSampleS.f k x0).bind fun t1017 => ((laws_eqSampleS.f k x10 t1017).bind fun t1020 => (if t1020 = true then (some true) else (none))))
def laws_FnExactSampleAt.f (k : Nat) (l0 : List (S90)) (a1 : Int) (a2 : Int) : Option (Bool) := (laws_szSampleS.f l0 1048576).bind fun t1001 => (if t1001 < 0 then (some true) else ((laws_toSampleS.f k l0).bind fun t1002 => ((spec_SampleAt.f k t1002 a1 a2).bind fun bt1005 => ((laws_toSampleS.f k l0).bind fun t1009 => ((impl_SampleAt.f k t1009 a1 a2).bind fun bt1012 => ((laws_eqSample.f bt1012.1 bt1012.2.1 bt1005.1 bt1005.2.1).bind fun t1016 => (if t1016 = true then (laws_FnExactSampleAt.j0 k l0 t1009 (bt1012.2.2 != bt1005.2.2)) else (laws_FnExactSampleAt.j0 k l0 t1009 true))))))))
theorem laws_FnExactSampleAt.mono_l : ∀ k, (∀ y0 y1 y2, LeO (laws_FnExactSampleAt.j0 k y0 y1 y2) (laws_FnExactSampleAt.j0 (k + 1) y0 y1 y2))
 | 0 => fun _ _ _ r h => by simp [laws_FnExactSampleAt.j0] at h
 | k + 1 => by
  have ih0 := laws_FnExactSampleAt.mono_l k
  ·intro y0 y1 y2
   unfold laws_FnExactSampleAt.j0
   repeat' first
   | with_reducible first | exact ih0 _ _ _ | exact impl_SampleAt.mono _ _ _ _ | exact laws_eqSampleS.mono _ _ _ | exact laws_toSampleS.mono _ _ | exact spec_SampleAt.mono _ _ _ _ | exact LeO.refl _ | exact LeO.none _ | refine LeO.ite ?_ ?_ | refine LeO.bind ?_ (fun _ => ?_)
   | exact ih0 _ _ _
   | exact impl_SampleAt.mono _ _ _ _
   | exact laws_eqSampleS.mono _ _ _
   | exact laws_toSampleS.mono _ _
   | exact spec_SampleAt.mono _ _ _ _
   | exact LeO.none _
   | refine LeO.ite ?_ ?_
   | refine LeO.bind ?_ (fun _ => ?_)
theorem laws_FnExactSampleAt.mono : ∀ a0 a1 a2 k, LeO (laws_FnExactSampleAt.f k a0 a1 a2) (laws_FnExactSampleAt.f (k + 1) a0 a1 a2) := by
 intro a0 a1 a2 k
 have ih0 := laws_FnExactSampleAt.mono_l k
 unfold laws_FnExactSampleAt.f
 repeat' first
   | with_reducible first | exact ih0 _ _ _ | exact impl_SampleAt.mono _ _ _ _ | exact laws_eqSampleS.mono _ _ _ | exact laws_toSampleS.mono _ _ | exact spec_SampleAt.mono _ _ _ _ | exact LeO.refl _ | exact LeO.none _ | refine LeO.ite ?_ ?_ | refine LeO.bind ?_ (fun _ => ?_)
   | exact ih0 _ _ _
   | exact impl_SampleAt.mono _ _ _ _
   | exact laws_eqSampleS.mono _ _ _
   | exact laws_toSampleS.mono _ _
   | exact spec_SampleAt.mono _ _ _ _
   | exact LeO.none _
   | refine LeO.ite ?_ ?_
   | refine LeO.bind ?_ (fun _ => ?_)
set_option maxHeartbeats 8000000 in
set_option maxRecDepth 100000 in
theorem laws_FnExactSampleAt.calls (k : Nat) (A0 : Option Addr) (c0 : Nat) (l0 : List (S90)) (a1 : Int) (a2 : Int) (r : Bool) (w : World) (hr0 : Kd.C k90 w A0 l0.length l0) (hc0 : l0.length ≤ c0) (h : laws_FnExactSampleAt.f k l0 a1 a2 = some r) :
  Calls Try.prog 5 #[.slice A0 l0.length c0, .int .i64 a1, .int .i64 a2] w fun e w' => e = .returned (.bool r) ∧ Below w.heap.size w w' := by
 have hu37 := Try.underlying37
 have HR0 := am_ hr0
 have HC0 := am_ hc0
 clear hr0 hc0
 have HB := am_ (Below.refl w.heap.size w)
 have H : ((laws_szSampleS.f l0 1048576).bind fun t1001 => (if t1001 < 0 then (some true) else ((laws_toSampleS.f k l0).bind fun t1002 => ((spec_SampleAt.f k t1002 a1 a2).bind fun bt1005 => ((laws_toSampleS.f k l0).bind fun t1009 => ((impl_SampleAt.f k t1009 a1 a2).bind fun bt1012 => ((laws_eqSample.f bt1012.1 bt1012.2.1 bt1005.1 bt1005.2.1).bind fun t1016 => (if t1016 = true then (laws_FnExactSampleAt.j0 k l0 t1009 (bt1012.2.2 != bt1005.2.2)) else (laws_FnExactSampleAt.j0 k l0 t1009 true))))))))) = some r := h
 clear h
 replace H := Option.bind_eq_some_iff.mp H
 obtain ⟨t1001, A40, H⟩ := H
 replace H : (if t1001 < 0 then (some true) else ((laws_toSampleS.f k l0).bind fun t1002 => ((spec_SampleAt.f k t1002 a1 a2).bind fun bt1005 => ((laws_toSampleS.f k l0).bind fun t1009 => ((impl_SampleAt.f k t1009 a1 a2).bind fun bt1012 => ((laws_eqSample.f bt1012.1 bt1012.2.1 bt1005.1 bt1005.2.1).bind fun t1016 => (if t1016 = true then (laws_FnExactSampleAt.j0 k l0 t1009 (bt1012.2.2 != bt1005.2.2)) else (laws_FnExactSampleAt.j0 k l0 t1009 true)))))))) = some r := H
 have A4 := am_ A40
 clear A40
 by_cases c5 : t1001 < 0
 ·rw [if_pos c5] at H
  have c5b0 : decide (t1001 < 0) = true := decide_eq_true c5
  clear c5
  obtain rfl := Option.some.inj H
  go_enter Try.func5, Try.ntmps5
  go_wp2_with (first | ((with_reducible refine gate_callee (f := 24) rfl ?_); refine goesL_ (some 15) rfl rfl Try.func24 (by kernel_rfl) rfl #[.slice A0 l0.length c0, .int .i64 1048576] rfl ag_ ?_; (with_reducible refine (laws_szSampleS.calls _ _ l0 1048576 t1001 _ ?side1 ?side2 A4.out).mono ?_); (case side1 => repeat (first | exact HR0.out | (with_reducible refine Kd.C_alloc ?_ _) | (with_reducible refine Kd.C_drewN ?_ _) | (with_reducible refine Kd.C_drew ?_))); (case side2 => exact HC0.out); rintro e w' ⟨rfl, ⟨nd, rfl⟩⟩; refine ⟨_, rfl, ?_⟩))
  go_ret
  exact ⟨rf_, bl_⟩
 ·rw [if_neg c5] at H
  have c5b0 : decide (t1001 < 0) = false := decide_eq_false c5
  clear c5
  replace H := Option.bind_eq_some_iff.mp H
  obtain ⟨t1002, A60, H⟩ := H
  replace H : ((spec_SampleAt.f k t1002 a1 a2).bind fun bt1005 => ((laws_toSampleS.f k l0).bind fun t1009 => ((impl_SampleAt.f k t1009 a1 a2).bind fun bt1012 => ((laws_eqSample.f bt1012.1 bt1012.2.1 bt1005.1 bt1005.2.1).bind fun t1016 => (if t1016 = true then (laws_FnExactSampleAt.j0 k l0 t1009 (bt1012.2.2 != bt1005.2.2)) else (laws_FnExactSampleAt.j0 k l0 t1009 true)))))) = some r := H
  have A6 := am_ A60
  clear A60
  replace H := Option.bind_eq_some_iff.mp H
  obtain ⟨⟨t1005, t1006, t1007⟩, A70, H⟩ := H
  replace H : ((laws_toSampleS.f k l0).bind fun t1009 => ((impl_SampleAt.f k t1009 a1 a2).bind fun bt1012 => ((laws_eqSample.f bt1012.1 bt1012.2.1 t1005 t1006).bind fun t1016 => (if t1016 = true then (laws_FnExactSampleAt.j0 k l0 t1009 (bt1012.2.2 != t1007)) else (laws_FnExactSampleAt.j0 k l0 t1009 true))))) = some r := H
  have A7 := am_ A70
  clear A70
  replace H := Option.bind_eq_some_iff.mp H
  obtain ⟨t1009, A80, H⟩ := H
  replace H : ((impl_SampleAt.f k t1009 a1 a2).bind fun bt1012 => ((laws_eqSample.f bt1012.1 bt1012.2.1 t1005 t1006).bind fun t1016 => (if t1016 = true then (laws_FnExactSampleAt.j0 k l0 t1009 (bt1012.2.2 != t1007)) else (laws_FnExactSampleAt.j0 k l0 t1009 true)))) = some r := H
  have A8 := am_ A80
  clear A80
  replace H := Option.bind_eq_some_iff.mp H
  obtain ⟨⟨t1012, t1013, t1014⟩, A90, H⟩ := H
  replace H : ((laws_eqSample.f t1012 t1013 t1005 t1006).bind fun t1016 => (if t1016 = true then (laws_FnExactSampleAt.j0 k l0 t1009 (t1014 != t1007)) else (laws_FnExactSampleAt.j0 k l0 t1009 true))) = some r := H
  have A9 := am_ A90
  clear A90
  have HC10 := am_ H
  clear H
  go_enter Try.func5, Try.ntmps5
  go_upto_region 8 with (first | ((with_reducible refine gate_callee (f := 24) rfl ?_); refine goesL_ (some 15) rfl rfl Try.func24 (by kernel_rfl) rfl #[.slice A0 l0.length c0, .int .i64 1048576] rfl ag_ ?_; (with_reducible refine (laws_szSampleS.calls _ _ l0 1048576 t1001 _ ?side1 ?side2 A4.out).mono ?_); (case side1 => repeat (first | exact HR0.out | (with_reducible refine Kd.C_alloc ?_ _) | (with_reducible refine Kd.C_drewN ?_ _) | (with_reducible refine Kd.C_drew ?_))); (case side2 => exact HC0.out); rintro e w' ⟨rfl, ⟨nd, rfl⟩⟩; refine ⟨_, rfl, ?_⟩) | ((with_reducible refine gate_callee (f := 26) rfl ?_); refine goesL_ (some 20) rfl rfl Try.func26 (by kernel_rfl) rfl #[.slice A0 l0.length c0] rfl ag_ ?_; (with_reducible refine (laws_toSampleS.calls k _ _ l0 t1002 _ ?side1 ?side2 A6.out).mono ?_); (case side1 => repeat (first | exact HR0.out | (with_reducible refine Kd.C_alloc ?_ _) | (with_reducible refine Kd.C_drewN ?_ _) | (with_reducible refine Kd.C_drew ?_))); (case side2 => exact HC0.out); rintro e w11 ⟨v1003, rfl, ho0, hb⟩; refine ⟨_, rfl, ?_⟩; have n0_ := am_ (Kd.R_lower ho0 (below_size bl_)); have n1_ := am_ (below_step bl_ hb); clear HB; have HO1004 := n0_; have HB := n1_; clear n0_ n1_; (try clear hb); (try clear hb2); (try clear hk); (try clear hi); (try clear ho0); obtain ⟨Ao12, co12, eo12⟩ := Kd.R_slice HO1004.out; subst eo12) | ((with_reducible refine gate_callee (f := 25) rfl ?_); refine goesL_ (some 23) rfl rfl Try.func25 (by kernel_rfl) rfl #[.slice Ao12 t1002.length co12, .int .i64 a1, .int .i64 a2] rfl ag_ ?_; (with_reducible refine (spec_SampleAt.calls k _ _ t1002 a1 a2 t1005 t1006 t1007 _ ?side1 ?side2 A7.out).mono ?_); (case side1 => exact cc_ (Kd.R_reads' HO1004.out).2.2); (case side2 => exact (Kd.R_reads' HO1004.out).2.1); rintro e w13 ⟨rfl, hb⟩; refine ⟨_, rfl, ?_⟩; have n0_ := am_ (Kd.R_below (ro_ HO1004) hb); have n1_ := am_ (below_step bl_ hb); clear HO1004; clear HB; have HO1004 := n0_; have HB := n1_; clear n0_ n1_; (try clear hb); (try clear hb2); (try clear hk); (try clear hi)) | ((with_reducible refine gate_dst (N := 8) rfl ?_); refine box_event ?hg (N := 8) ?hd (cs := #[.int .i64 0, .int .i64 0]) (t := 37) ?hr ?_; (case hd => rfl); (case hg => rfl); (case hr => first | (go_simp; done) | (go_simp; rfl)); intro gb1008 hg w14 hbox hb; have n0_ := am_ (Kd.R_below (Kd.R_elderB (ro_ HO1004) gb1008 (Nat.le_of_eq hg.symm)) hb); have n1_ := am_ (below_step bl_ hb); have n2_ := am_ (hbox); have n3_ := am_ (gs_ hg : w.heap.size ≤ gb1008); have n4_ := n3_; clear HO1004; clear HB; have HO1004 := n0_; have HB := n1_; have BK1008 := n2_; have GW1008 := n3_; have GE1008 := n4_; clear n0_ n1_ n2_ n3_ n4_; clear hb hbox hg; have hcz15_0 := bc2_0 BK1008; have hcz15_1 := bc2_1 BK1008; have hfz15_0 := bf_ BK1008 0; have hfz15_1 := bf_ BK1008 1) | ((with_reducible refine gate_callee (f := 26) rfl ?_); refine goesL_ (some 27) rfl rfl Try.func26 (by kernel_rfl) rfl #[.slice A0 l0.length c0] rfl ag_ ?_; (with_reducible refine (laws_toSampleS.calls k _ _ l0 t1009 _ ?side1 ?side2 A8.out).mono ?_); (case side1 => exact Kd.C_below HR0.out bg_); (case side2 => exact HC0.out); rintro e w16 ⟨v1010, rfl, ho0, hb⟩; refine ⟨_, rfl, ?_⟩; have n0_ := am_ (Kd.R_elder' (by (with_reducible repeat (first | apply Kd.R_alloc | apply Kd.R_drewN | apply Kd.R_drew)); exact (Kd.R_mono (Kd.R_far (p := ⟨gb1008, 1, none⟩) (Kd.R_far (p := ⟨gb1008, 0, none⟩) (Kd.R_mono HO1004.out (fun k_ hk => (⟨hk, hk.2⟩ : _ ∧ k_ ≠ gb1008))) (fun _ hk => hk.2) (.int .i64 t1005)) (fun _ hk => hk.2) (.int .i64 t1006)) (fun _ h_ => h_.1))) (Kd.R_base ho0) hb); have n1_ := am_ (Kd.R_lower (Kd.R_newB (Kd.R_new' ho0 (Kd.R_lt (by (with_reducible repeat (first | apply Kd.R_alloc | apply Kd.R_drewN | apply Kd.R_drew)); exact (Kd.R_mono (Kd.R_far (p := ⟨gb1008, 1, none⟩) (Kd.R_far (p := ⟨gb1008, 0, none⟩) (Kd.R_mono HO1004.out (fun k_ hk => (⟨hk, hk.2⟩ : _ ∧ k_ ≠ gb1008))) (fun _ hk => hk.2) (.int .i64 t1005)) (fun _ hk => hk.2) (.int .i64 t1006)) (fun _ h_ => h_.1))))) (g := gb1008) (o := .cells #[.int .i64 t1005, .int .i64 t1006] 37 (0, 0)) (by (with_reducible repeat (first | refine blk_drewN ?_ _ | refine blk_drew ?_ | refine blk_alloc ?_ _)); refine blk_put (cs := #[.int .i64 t1005, .int .i64 0]) ?_ 1 _ rfl; (with_reducible repeat (first | refine blk_drewN ?_ _ | refine blk_drew ?_ | refine blk_alloc ?_ _)); refine blk_put (cs := #[.int .i64 0, .int .i64 0]) ?_ 0 _ rfl; (with_reducible repeat (first | refine blk_drewN ?_ _ | refine blk_drew ?_ | refine blk_alloc ?_ _)); exact BK1008.out)) (below_size bg_)); have n2_ := am_ (blk_below (g := gb1008) (o := .cells #[.int .i64 t1005, .int .i64 t1006] 37 (0, 0)) (by (with_reducible repeat (first | refine blk_drewN ?_ _ | refine blk_drew ?_ | refine blk_alloc ?_ _)); refine blk_put (cs := #[.int .i64 t1005, .int .i64 0]) ?_ 1 _ rfl; (with_reducible repeat (first | refine blk_drewN ?_ _ | refine blk_drew ?_ | refine blk_alloc ?_ _)); refine blk_put (cs := #[.int .i64 0, .int .i64 0]) ?_ 0 _ rfl; (with_reducible repeat (first | refine blk_drewN ?_ _ | refine blk_drew ?_ | refine blk_alloc ?_ _)); exact BK1008.out) hb); have n3_ := am_ (below_step bg_ hb); clear HO1004; clear BK1008; clear HB; have HO1004 := n0_; have HO1011 := n1_; have BK1008 := n2_; have HB := n3_; clear n0_ n1_ n2_ n3_; (try clear hb); (try clear hb2); (try clear hk); (try clear hi); (try clear ho0); obtain ⟨Ao17, co17, eo17⟩ := Kd.R_slice HO1011.out; subst eo17) | ((with_reducible refine gate_callee (f := 27) rfl ?_); refine goesL_ (some 32) rfl rfl Try.func27 (by kernel_rfl) rfl #[.slice Ao17 t1009.length co17, .int .i64 a1, .int .i64 a2] rfl ag_ ?_; (with_reducible refine (impl_SampleAt.calls k _ _ t1009 a1 a2 t1012 t1013 t1014 _ ?side1 ?side2 A9.out).mono ?_); (case side1 => exact cc_ (Kd.R_reads' HO1011.out).2.2); (case side2 => exact (Kd.R_reads' HO1011.out).2.1); rintro e w18 ⟨rfl, hb⟩; refine ⟨_, rfl, ?_⟩; have n0_ := am_ (Kd.R_below (ro_ HO1004) hb); have n1_ := am_ (Kd.R_below (ro_ HO1011) hb); have n2_ := am_ (blk_below (g := gb1008) (vk_ BK1008) hb); have n3_ := am_ (below_step bg_ hb); clear HO1004; clear HO1011; clear BK1008; clear HB; have HO1004 := n0_; have HO1011 := n1_; have BK1008 := n2_; have HB := n3_; clear n0_ n1_ n2_ n3_; (try clear hb); (try clear hb2); (try clear hk); (try clear hi)) | ((with_reducible refine gate_dst (N := 11) rfl ?_); refine box_event ?hg (N := 11) ?hd (cs := #[.int .i64 0, .int .i64 0]) (t := 37) ?hr ?_; (case hd => rfl); (case hg => rfl); (case hr => first | (go_simp; done) | (go_simp; rfl)); intro gb1015 hg w19 hbox hb; have n0_ := am_ (Kd.R_below (Kd.R_elderB (ro_ HO1004) gb1015 (Nat.le_of_eq hg.symm)) hb); have n1_ := am_ (Kd.R_below (Kd.R_elderB (ro_ HO1011) gb1015 (Nat.le_of_eq hg.symm)) hb); have n2_ := am_ (blk_below (g := gb1008) (vk_ BK1008) hb); have n3_ := am_ (below_step bg_ hb); have n4_ := am_ (hbox); have n5_ := am_ (gg_ hg : w.heap.size ≤ gb1015); have n6_ := n5_; have n7_ := am_ ((by rw [hg]; exact Nat.ne_of_lt (blk_lt (g := gb1008) (o := .cells #[.int .i64 t1005, .int .i64 t1006] 37 (0, 0)) (vk_ BK1008)) : gb1008 ≠ gb1015)); have n8_ := am_ ((by rw [hg]; exact Nat.ne_of_gt (blk_lt (g := gb1008) (o := .cells #[.int .i64 t1005, .int .i64 t1006] 37 (0, 0)) (vk_ BK1008)) : gb1015 ≠ gb1008)); clear HO1004; clear HO1011; clear BK1008; clear HB; have HO1004 := n0_; have HO1011 := n1_; have BK1008 := n2_; have HB := n3_; have BK1015 := n4_; have GW1015 := n5_; have GE1015 := n6_; have NB1008_1015 := n7_; have NB1015_1008 := n8_; clear n0_ n1_ n2_ n3_ n4_ n5_ n6_ n7_ n8_; clear hb hbox hg; have hnb20 := NB1015_1008.out; have hnc20 := NB1008_1015.out; have hcz21_0 := bc2_0 BK1015; have hcz21_1 := bc2_1 BK1015; have hfz21_0 := bf_ BK1015 0; have hfz21_1 := bf_ BK1015 1))
  (try simp only [Act.put, List.setIfInBounds_toArray, List.set_cons_zero, List.set_cons_succ])
  go_cut [43] (fun v43 wc => ∃ (kq : Nat) (x43_9 : Bool), v43 = .bool x43_9 ∧ Aside0 (laws_FnExactSampleAt.j0 kq l0 t1009 x43_9 = some r) ∧ Aside0 (kq ≤ k) ∧ Aside0 (Kd.R k37 37 wc w.heap.size (fun k_ => k_ ≠ gb1008 ∧ k_ ≠ gb1015) (.slice Ao17 t1009.length co17) t1009) ∧ Aside0 (wc.heap[gb1008]? = some (.cells #[.int .i64 t1005, .int .i64 t1006] 37 (0, 0))) ∧ Aside0 (wc.heap[gb1015]? = some (.cells #[.int .i64 t1012, .int .i64 t1013] 37 (0, 0))) ∧ Aside0 (Below w.heap.size w wc))
  case first =>
   have H := HC10.out
   clear HC10
   replace H := Option.bind_eq_some_iff.mp H
   obtain ⟨t1016, A220, H⟩ := H
   replace H : (if t1016 = true then (laws_FnExactSampleAt.j0 k l0 t1009 (t1014 != t1007)) else (laws_FnExactSampleAt.j0 k l0 t1009 true)) = some r := H
   have A22 := am_ A220
   clear A220
   by_cases c23 : t1016 = true
   ·subst c23
    have H1 : (laws_FnExactSampleAt.j0 k l0 t1009 (t1014 != t1007)) = some r := by rw [if_pos rfl] at H; exact H
    clear H
    have H := H1
    clear H1
    have H' := am_ H
    clear H
    have hnb24 := NB1015_1008.out
    have hnc24 := NB1008_1015.out
    have hcz25_0 := bc2_0 BK1015
    have hcz25_1 := bc2_1 BK1015
    have hfz25_0 := bf_ BK1015 0
    have hfz25_1 := bf_ BK1015 1
    have hcz26_0 := bc2_0 BK1008
    have hcz26_1 := bc2_1 BK1008
    have hfz26_0 := bf_ BK1008 0
    have hfz26_1 := bf_ BK1008 1
    go_wp2_with (first | ((with_reducible refine gate_callee (f := 28) rfl ?_); refine goesL_ (some 37) rfl rfl Try.func28 (by kernel_rfl) rfl #[.agg #[.int .i64 t1012, .int .i64 t1013], .agg #[.int .i64 t1005, .int .i64 t1006]] rfl ag_ ?_; (with_reducible refine (laws_eqSample.calls t1012 t1013 t1005 t1006 true _ A22.out).mono ?_); rintro e w27 ⟨rfl, hb⟩; refine ⟨_, rfl, ?_⟩; have n0_ := am_ (Kd.R_below (by (with_reducible repeat (first | apply Kd.R_alloc | apply Kd.R_drewN | apply Kd.R_drew)); exact (Kd.R_mono (Kd.R_far (p := ⟨gb1015, 1, none⟩) (Kd.R_far (p := ⟨gb1015, 0, none⟩) (Kd.R_mono HO1004.out (fun k_ hk => (⟨hk, hk.2⟩ : _ ∧ k_ ≠ gb1015))) (fun _ hk => hk.2) (.int .i64 t1012)) (fun _ hk => hk.2) (.int .i64 t1013)) (fun _ h_ => h_.1))) hb); have n1_ := am_ (Kd.R_below (by (with_reducible repeat (first | apply Kd.R_alloc | apply Kd.R_drewN | apply Kd.R_drew)); exact (Kd.R_mono (Kd.R_far (p := ⟨gb1015, 1, none⟩) (Kd.R_far (p := ⟨gb1015, 0, none⟩) (Kd.R_mono HO1011.out (fun k_ hk => (⟨hk, hk.2⟩ : _ ∧ k_ ≠ gb1015))) (fun _ hk => hk.2) (.int .i64 t1012)) (fun _ hk => hk.2) (.int .i64 t1013)) (fun _ h_ => h_.1))) hb); have n2_ := am_ (blk_below (g := gb1008) (o := .cells #[.int .i64 t1005, .int .i64 t1006] 37 (0, 0)) (by (with_reducible repeat (first | refine blk_drewN ?_ _ | refine blk_drew ?_ | refine blk_alloc ?_ _)); refine blk_far ?_ NB1008_1015.out _; (with_reducible repeat (first | refine blk_drewN ?_ _ | refine blk_drew ?_ | refine blk_alloc ?_ _)); refine blk_far ?_ NB1008_1015.out _; (with_reducible repeat (first | refine blk_drewN ?_ _ | refine blk_drew ?_ | refine blk_alloc ?_ _)); exact BK1008.out) hb); have n3_ := am_ (blk_below (g := gb1015) (o := .cells #[.int .i64 t1012, .int .i64 t1013] 37 (0, 0)) (by (with_reducible repeat (first | refine blk_drewN ?_ _ | refine blk_drew ?_ | refine blk_alloc ?_ _)); refine blk_put (cs := #[.int .i64 t1012, .int .i64 0]) ?_ 1 _ rfl; (with_reducible repeat (first | refine blk_drewN ?_ _ | refine blk_drew ?_ | refine blk_alloc ?_ _)); refine blk_put (cs := #[.int .i64 0, .int .i64 0]) ?_ 0 _ rfl; (with_reducible repeat (first | refine blk_drewN ?_ _ | refine blk_drew ?_ | refine blk_alloc ?_ _)); exact BK1015.out) hb); have n4_ := am_ (below_step bg_ hb); clear HO1004; clear HO1011; clear BK1008; clear BK1015; clear HB; have HO1004 := n0_; have HO1011 := n1_; have BK1008 := n2_; have BK1015 := n3_; have HB := n4_; clear n0_ n1_ n2_ n3_ n4_; (try clear hb); (try clear hb2); (try clear hk); (try clear hi)))
    go_meet
    case rel => exact ⟨_, ((t1014 != t1007)), rs_, H', ⟨by first | omega | exact Nat.le_refl _⟩, ⟨by (with_reducible repeat (first | apply Kd.R_alloc | apply Kd.R_drewN | apply Kd.R_drew)); exact Kd.R_mono HO1011.out (fun _ hk => ⟨hk.1.2, hk.2⟩)⟩, ⟨vk_ BK1008⟩, ⟨vk_ BK1015⟩, ⟨bg_⟩⟩
   ·replace c23 := Bool.eq_false_iff.mpr c23
    subst c23
    have H1 : (laws_FnExactSampleAt.j0 k l0 t1009 true) = some r := by rw [if_neg (show ¬ (false = true) by decide)] at H; exact H
    clear H
    have H := H1
    clear H1
    have H' := am_ H
    clear H
    have hnb28 := NB1015_1008.out
    have hnc28 := NB1008_1015.out
    have hcz29_0 := bc2_0 BK1015
    have hcz29_1 := bc2_1 BK1015
    have hfz29_0 := bf_ BK1015 0
    have hfz29_1 := bf_ BK1015 1
    have hcz30_0 := bc2_0 BK1008
    have hcz30_1 := bc2_1 BK1008
    have hfz30_0 := bf_ BK1008 0
    have hfz30_1 := bf_ BK1008 1
    go_wp2_with (first | ((with_reducible refine gate_callee (f := 28) rfl ?_); refine goesL_ (some 37) rfl rfl Try.func28 (by kernel_rfl) rfl #[.agg #[.int .i64 t1012, .int .i64 t1013], .agg #[.int .i64 t1005, .int .i64 t1006]] rfl ag_ ?_; (with_reducible refine (laws_eqSample.calls t1012 t1013 t1005 t1006 false _ A22.out).mono ?_); rintro e w31 ⟨rfl, hb⟩; refine ⟨_, rfl, ?_⟩; have n0_ := am_ (Kd.R_below (by (with_reducible repeat (first | apply Kd.R_alloc | apply Kd.R_drewN | apply Kd.R_drew)); exact (Kd.R_mono (Kd.R_far (p := ⟨gb1015, 1, none⟩) (Kd.R_far (p := ⟨gb1015, 0, none⟩) (Kd.R_mono HO1004.out (fun k_ hk => (⟨hk, hk.2⟩ : _ ∧ k_ ≠ gb1015))) (fun _ hk => hk.2) (.int .i64 t1012)) (fun _ hk => hk.2) (.int .i64 t1013)) (fun _ h_ => h_.1))) hb); have n1_ := am_ (Kd.R_below (by (with_reducible repeat (first | apply Kd.R_alloc | apply Kd.R_drewN | apply Kd.R_drew)); exact (Kd.R_mono (Kd.R_far (p := ⟨gb1015, 1, none⟩) (Kd.R_far (p := ⟨gb1015, 0, none⟩) (Kd.R_mono HO1011.out (fun k_ hk => (⟨hk, hk.2⟩ : _ ∧ k_ ≠ gb1015))) (fun _ hk => hk.2) (.int .i64 t1012)) (fun _ hk => hk.2) (.int .i64 t1013)) (fun _ h_ => h_.1))) hb); have n2_ := am_ (blk_below (g := gb1008) (o := .cells #[.int .i64 t1005, .int .i64 t1006] 37 (0, 0)) (by (with_reducible repeat (first | refine blk_drewN ?_ _ | refine blk_drew ?_ | refine blk_alloc ?_ _)); refine blk_far ?_ NB1008_1015.out _; (with_reducible repeat (first | refine blk_drewN ?_ _ | refine blk_drew ?_ | refine blk_alloc ?_ _)); refine blk_far ?_ NB1008_1015.out _; (with_reducible repeat (first | refine blk_drewN ?_ _ | refine blk_drew ?_ | refine blk_alloc ?_ _)); exact BK1008.out) hb); have n3_ := am_ (blk_below (g := gb1015) (o := .cells #[.int .i64 t1012, .int .i64 t1013] 37 (0, 0)) (by (with_reducible repeat (first | refine blk_drewN ?_ _ | refine blk_drew ?_ | refine blk_alloc ?_ _)); refine blk_put (cs := #[.int .i64 t1012, .int .i64 0]) ?_ 1 _ rfl; (with_reducible repeat (first | refine blk_drewN ?_ _ | refine blk_drew ?_ | refine blk_alloc ?_ _)); refine blk_put (cs := #[.int .i64 0, .int .i64 0]) ?_ 0 _ rfl; (with_reducible repeat (first | refine blk_drewN ?_ _ | refine blk_drew ?_ | refine blk_alloc ?_ _)); exact BK1015.out) hb); have n4_ := am_ (below_step bg_ hb); clear HO1004; clear HO1011; clear BK1008; clear BK1015; clear HB; have HO1004 := n0_; have HO1011 := n1_; have BK1008 := n2_; have BK1015 := n3_; have HB := n4_; clear n0_ n1_ n2_ n3_ n4_; (try clear hb); (try clear hb2); (try clear hk); (try clear hi)))
    go_meet
    case rel => exact ⟨_, (true), rs_, H', ⟨by first | omega | exact Nat.le_refl _⟩, ⟨by (with_reducible repeat (first | apply Kd.R_alloc | apply Kd.R_drewN | apply Kd.R_drew)); exact Kd.R_mono HO1011.out (fun _ hk => ⟨hk.1.2, hk.2⟩)⟩, ⟨vk_ BK1008⟩, ⟨vk_ BK1015⟩, ⟨bg_⟩⟩
  case rest =>
   clear HC10
   try clear c2
   try clear p2
   try clear c5
   try clear c5b0
   try clear c20
   try clear c23
   try clear c24
   try clear c25
   try clear c26
   try clear c27
   try clear c28
   try clear hcz15_0
   try clear hcz15_1
   try clear hcz21_0
   try clear hcz21_1
   try clear hcz25_0
   try clear hcz25_1
   try clear hcz26_0
   try clear hcz26_1
   try clear hcz29_0
   try clear hcz29_1
   try clear hcz30_0
   try clear hcz30_1
   try clear hfz15_0
   try clear hfz15_1
   try clear hfz21_0
   try clear hfz21_1
   try clear hfz25_0
   try clear hfz25_1
   try clear hfz26_0
   try clear hfz26_1
   try clear hfz29_0
   try clear hfz29_1
   try clear hfz30_0
   try clear hfz30_1
   obtain ⟨kq, x43_9, rfl, HA, HJ9, HO_10, BK1008, BK1015, HB⟩ := hcut
   cases kq with
   | zero => exact absurd HA.out (by simp [laws_FnExactSampleAt.j0])
   | succ kj9 =>
    have H := HA.out
    clear HA
    simp only [laws_FnExactSampleAt.j0] at H
    by_cases c32 : x43_9 = true
    ·subst c32
     have H1 : (none) = some r := by rw [if_pos rfl] at H; exact H
     clear H
     have H := H1
     clear H1
     exact absurd H (by simp)
    ·replace c32 := Bool.eq_false_iff.mpr c32
     subst c32
     have H1 : ((laws_toSampleS.f kj9 l0).bind fun t1017 => ((laws_eqSampleS.f kj9 t1009 t1017).bind fun t1020 => (if t1020 = true then (some true) else (none)))) = some r := by rw [if_neg (show ¬ (false = true) by decide)] at H; exact H
     clear H
     have H := H1
     clear H1
     replace H := Option.bind_eq_some_iff.mp H
     obtain ⟨t1017, A330, H⟩ := H
     replace H : ((laws_eqSampleS.f kj9 t1009 t1017).bind fun t1020 => (if t1020 = true then (some true) else (none))) = some r := H
     have A33 := am_ A330
     clear A330
     replace H := Option.bind_eq_some_iff.mp H
     obtain ⟨t1020, A340, H⟩ := H
     replace H : (if t1020 = true then (some true) else (none)) = some r := H
     have A34 := am_ A340
     clear A340
     by_cases c35 : t1020 = true
     ·subst c35
      have H1 : (some true) = some r := by rw [if_pos rfl] at H; exact H
      clear H
      have H := H1
      clear H1
      obtain rfl := Option.some.inj H
      go_wp2_with (first | ((with_reducible refine gate_callee (f := 26) rfl ?_); refine goesL_ (some 46) rfl rfl Try.func26 (by kernel_rfl) rfl #[.slice A0 l0.length c0] rfl ag_ ?_; (with_reducible refine (laws_toSampleS.calls kj9 _ _ l0 t1017 _ ?side1 ?side2 A33.out).mono ?_); (case side1 => exact cc_ (Kd.C_below HR0.out HB.out)); (case side2 => exact HC0.out); rintro e w36 ⟨v1018, rfl, ho0, hb⟩; refine ⟨_, rfl, ?_⟩; have n0_ := am_ (Kd.R_elder' (ro_ HO_10) (Kd.R_base ho0) hb); have n1_ := am_ (Kd.R_lower (Kd.R_newB (Kd.R_newB (Kd.R_new' ho0 (Kd.R_lt (ro_ HO_10))) (g := gb1008) (o := .cells #[.int .i64 t1005, .int .i64 t1006] 37 (0, 0)) (vk_ BK1008)) (g := gb1015) (o := .cells #[.int .i64 t1012, .int .i64 t1013] 37 (0, 0)) (vk_ BK1015)) (below_size bg_)); have n2_ := am_ (blk_below (g := gb1008) (vk_ BK1008) hb); have n3_ := am_ (blk_below (g := gb1015) (vk_ BK1015) hb); have n4_ := am_ (below_step bg_ hb); clear HO_10; clear BK1008; clear BK1015; clear HB; have HO_10 := n0_; have HO1019 := n1_; have BK1008 := n2_; have BK1015 := n3_; have HB := n4_; clear n0_ n1_ n2_ n3_ n4_; (try clear hb); (try clear hb2); (try clear hk); (try clear hi); (try clear ho0); obtain ⟨Ao37, co37, eo37⟩ := Kd.R_slice HO1019.out; subst eo37) | ((with_reducible refine gate_callee (f := 29) rfl ?_); refine goesL_ (some 47) rfl rfl Try.func29 (by kernel_rfl) rfl #[.slice Ao17 t1009.length co17, .slice Ao37 t1017.length co37] rfl ag_ ?_; (with_reducible refine (laws_eqSampleS.calls kj9 _ _ t1009 _ _ t1017 true _ ?side1 ?side2 ?side3 ?side4 A34.out).mono ?_); (case side1 => exact cc_ (Kd.R_reads' HO_10.out).2.2); (case side2 => exact (Kd.R_reads' HO_10.out).2.1); (case side3 => exact cc_ (Kd.R_reads' HO1019.out).2.2); (case side4 => exact (Kd.R_reads' HO1019.out).2.1); rintro e w38 ⟨rfl, hb⟩; refine ⟨_, rfl, ?_⟩; have n0_ := am_ (Kd.R_below (ro_ HO_10) hb); have n1_ := am_ (Kd.R_below (ro_ HO1019) hb); have n2_ := am_ (blk_below (g := gb1008) (vk_ BK1008) hb); have n3_ := am_ (blk_below (g := gb1015) (vk_ BK1015) hb); have n4_ := am_ (below_step bg_ hb); clear HO_10; clear HO1019; clear BK1008; clear BK1015; clear HB; have HO_10 := n0_; have HO1019 := n1_; have BK1008 := n2_; have BK1015 := n3_; have HB := n4_; clear n0_ n1_ n2_ n3_ n4_; (try clear hb); (try clear hb2); (try clear hk); (try clear hi)))
      go_ret
      exact ⟨rf_, bg_⟩
     ·replace c35 := Bool.eq_false_iff.mpr c35
      subst c35
      have H1 : (none) = some r := by rw [if_neg (show ¬ (false = true) by decide)] at H; exact H
      clear H
      have H := H1
      clear H1
      exact absurd H (by simp)

end Go.Proofs.Ytjapdjkckhcelaa.Pr
