/- Functions of the given program as plain Lean functions, and that the machine's calls come to them; written by a program of this session; no condition but those that each theorem states. -/
import Derived.Test.YtnnlgbpfdnaalaaPrx0
import Derived.Test.YtnnlgbpfdnaalaaPrxg3010bn1
import Derived.Test.YtnnlgbpfdnaalaaPrxg84e39n1
import Derived.Test.YtnnlgbpfdnaalaaPrxgd406dn1
import Derived.Test.YtnnlgbpfdnaalaaPrxgd406dn2
namespace Go.Proofs.Ytnnlgbpfdnaalaa.Pr
open Go.RowKit Go.Proofs.YtnnlgbpfdnaalaaW.PrintWords Go.Proofs.YtnnlgbpfdnaalaaW.PrintLast Go.Proofs.YtnnlgbpfdnaalaaW.PrintMore
attribute [local go_sem] max2_int min2_int max_two min_two max_three min_three max_four min_four   -- for this text's walks alone
set_option linter.unusedVariables false
set_option linter.unusedSimpArgs false

/-! ### spec_l2Match: function 128 -/
def spec_l2Match.f (k : Nat) (a0_0 : ByteArray) (a0_1 : Int) (a0_2 : ByteArray) (a1 : ByteArray) : Option (Bool) := if a0_1 = 1 then (some (a1.toList == a0_2.toList)) else (if a0_1 = 2 then (some (a1.toList != a0_2.toList)) else (if a0_1 = 3 then ((spec_l2Fits.f k a0_2 a1).bind fun t1002 => (some t1002)) else ((spec_l2Fits.f k a0_2 a1).bind fun t1003 => (some (!t1003)))))
theorem spec_l2Match.mono : ∀ a0 a1 a2 a3 k, LeO (spec_l2Match.f k a0 a1 a2 a3) (spec_l2Match.f (k + 1) a0 a1 a2 a3) := by
 intro a0 a1 a2 a3 k
 unfold spec_l2Match.f
 repeat' first
   | with_reducible first | exact spec_l2Fits.mono _ _ _ | exact LeO.refl _ | exact LeO.none _ | refine LeO.ite ?_ ?_ | refine LeO.bind ?_ (fun _ => ?_)
   | exact spec_l2Fits.mono _ _ _
   | exact LeO.none _
   | refine LeO.ite ?_ ?_
   | refine LeO.bind ?_ (fun _ => ?_)
set_option maxHeartbeats 8000000 in
set_option maxRecDepth 100000 in
theorem spec_l2Match.calls (k : Nat) (a0_0 : ByteArray) (a0_1 : Int) (a0_2 : ByteArray) (a1 : ByteArray) (r : Bool) (w : World) (h : spec_l2Match.f k a0_0 a0_1 a0_2 a1 = some r) :
  Calls Try.prog 128 #[.agg #[.string a0_0, .int .i64 a0_1, .string a0_2], .string a1] w fun e w' => e = .returned (.bool r) ∧ Below w.heap.size w w' := by
 have hu87 := Try.underlying87
 have HB := am_ (Below.refl w.heap.size w)
 have H : (if a0_1 = 1 then (some (a1.toList == a0_2.toList)) else (if a0_1 = 2 then (some (a1.toList != a0_2.toList)) else (if a0_1 = 3 then ((spec_l2Fits.f k a0_2 a1).bind fun t1002 => (some t1002)) else ((spec_l2Fits.f k a0_2 a1).bind fun t1003 => (some (!t1003)))))) = some r := h
 clear h
 by_cases c3 : a0_1 = 1
 ·rw [if_pos c3] at H
  have c3b0 : (a0_1 == 1) = true := beq_iff_eq.mpr c3
  have c3b1 : (a0_1 != 1) = false := bne_eq_false_iff_eq.mpr c3
  clear c3
  obtain rfl := Option.some.inj H
  go_enter Try.func128, Try.ntmps128
  go_wp2_with (first | ((with_reducible refine gate_dst (N := 2) rfl ?_); refine box_event ?hg (N := 2) ?hd (cs := #[.string a0_0, .int .i64 a0_1, .string a0_2]) (t := 87) ?hr ?_; (case hd => rfl); (case hg => rfl); (case hr => first | (go_simp; done) | (go_simp; rfl)); intro gb1001 hg w4 hbox hb; have n0_ := am_ (below_step bl_ hb); have n1_ := am_ (hbox); have n2_ := am_ (gs_ hg : w.heap.size ≤ gb1001); have n3_ := n2_; clear HB; have HB := n0_; have BK1001 := n1_; have GW1001 := n2_; have GE1001 := n3_; clear n0_ n1_ n2_ n3_; clear hb hbox hg; have hcz5_0 := bc3_0 BK1001; have hcz5_1 := bc3_1 BK1001; have hcz5_2 := bc3_2 BK1001; have hfz5_0 := bf_ BK1001 0; have hfz5_1 := bf_ BK1001 1; have hfz5_2 := bf_ BK1001 2))
  go_ret
  exact ⟨rf_, bg_⟩
 ·rw [if_neg c3] at H
  have c3b0 : (a0_1 == 1) = false := beq_eq_false_iff_ne.mpr c3
  have c3b1 : (a0_1 != 1) = true := bne_iff_ne.mpr c3
  by_cases c6 : a0_1 = 2
  ·rw [if_pos c6] at H
   have c6b0 : (a0_1 == 2) = true := beq_iff_eq.mpr c6
   have c6b1 : (a0_1 != 2) = false := bne_eq_false_iff_eq.mpr c6
   clear c6
   obtain rfl := Option.some.inj H
   go_enter Try.func128, Try.ntmps128
   go_wp2_with (first | ((with_reducible refine gate_dst (N := 2) rfl ?_); refine box_event ?hg (N := 2) ?hd (cs := #[.string a0_0, .int .i64 a0_1, .string a0_2]) (t := 87) ?hr ?_; (case hd => rfl); (case hg => rfl); (case hr => first | (go_simp; done) | (go_simp; rfl)); intro gb1001 hg w7 hbox hb; have n0_ := am_ (below_step bl_ hb); have n1_ := am_ (hbox); have n2_ := am_ (gs_ hg : w.heap.size ≤ gb1001); have n3_ := n2_; clear HB; have HB := n0_; have BK1001 := n1_; have GW1001 := n2_; have GE1001 := n3_; clear n0_ n1_ n2_ n3_; clear hb hbox hg; have hcz8_0 := bc3_0 BK1001; have hcz8_1 := bc3_1 BK1001; have hcz8_2 := bc3_2 BK1001; have hfz8_0 := bf_ BK1001 0; have hfz8_1 := bf_ BK1001 1; have hfz8_2 := bf_ BK1001 2))
   go_ret
   exact ⟨rf_, bg_⟩
  ·rw [if_neg c6] at H
   have c6b0 : (a0_1 == 2) = false := beq_eq_false_iff_ne.mpr c6
   have c6b1 : (a0_1 != 2) = true := bne_iff_ne.mpr c6
   by_cases c9 : a0_1 = 3
   ·rw [if_pos c9] at H
    have c9b0 : (a0_1 == 3) = true := beq_iff_eq.mpr c9
    have c9b1 : (a0_1 != 3) = false := bne_eq_false_iff_eq.mpr c9
    clear c9
    replace H := Option.bind_eq_some_iff.mp H
    obtain ⟨t1002, A100, H⟩ := H
    replace H : (some t1002) = some r := H
    have A10 := am_ A100
    clear A100
    obtain rfl := Option.some.inj H
    go_enter Try.func128, Try.ntmps128
    go_wp2_with (first | ((with_reducible refine gate_dst (N := 2) rfl ?_); refine box_event ?hg (N := 2) ?hd (cs := #[.string a0_0, .int .i64 a0_1, .string a0_2]) (t := 87) ?hr ?_; (case hd => rfl); (case hg => rfl); (case hr => first | (go_simp; done) | (go_simp; rfl)); intro gb1001 hg w11 hbox hb; have n0_ := am_ (below_step bl_ hb); have n1_ := am_ (hbox); have n2_ := am_ (gs_ hg : w.heap.size ≤ gb1001); have n3_ := n2_; clear HB; have HB := n0_; have BK1001 := n1_; have GW1001 := n2_; have GE1001 := n3_; clear n0_ n1_ n2_ n3_; clear hb hbox hg; have hcz12_0 := bc3_0 BK1001; have hcz12_1 := bc3_1 BK1001; have hcz12_2 := bc3_2 BK1001; have hfz12_0 := bf_ BK1001 0; have hfz12_1 := bf_ BK1001 1; have hfz12_2 := bf_ BK1001 2) | ((with_reducible refine gate_callee (f := 68) rfl ?_); refine goesL_ (some 24) rfl rfl Try.func68 (by kernel_rfl) rfl #[.string a0_2, .string a1] rfl ag_ ?_; (with_reducible refine (spec_l2Fits.calls k a0_2 a1 t1002 _ A10.out).mono ?_); rintro e w13 ⟨rfl, hb⟩; refine ⟨_, rfl, ?_⟩; have n0_ := am_ (blk_below (g := gb1001) (vk_ BK1001) hb); have n1_ := am_ (below_step bg_ hb); clear BK1001; clear HB; have BK1001 := n0_; have HB := n1_; clear n0_ n1_; (try clear hb); (try clear hb2); (try clear hk); (try clear hi)))
    go_ret
    exact ⟨rf_, bg_⟩
   ·rw [if_neg c9] at H
    have c9b0 : (a0_1 == 3) = false := beq_eq_false_iff_ne.mpr c9
    have c9b1 : (a0_1 != 3) = true := bne_iff_ne.mpr c9
    replace H := Option.bind_eq_some_iff.mp H
    obtain ⟨t1003, A140, H⟩ := H
    replace H : (some (!t1003)) = some r := H
    have A14 := am_ A140
    clear A140
    obtain rfl := Option.some.inj H
    go_enter Try.func128, Try.ntmps128
    go_wp2_with (first | ((with_reducible refine gate_dst (N := 2) rfl ?_); refine box_event ?hg (N := 2) ?hd (cs := #[.string a0_0, .int .i64 a0_1, .string a0_2]) (t := 87) ?hr ?_; (case hd => rfl); (case hg => rfl); (case hr => first | (go_simp; done) | (go_simp; rfl)); intro gb1001 hg w15 hbox hb; have n0_ := am_ (below_step bl_ hb); have n1_ := am_ (hbox); have n2_ := am_ (gs_ hg : w.heap.size ≤ gb1001); have n3_ := n2_; clear HB; have HB := n0_; have BK1001 := n1_; have GW1001 := n2_; have GE1001 := n3_; clear n0_ n1_ n2_ n3_; clear hb hbox hg; have hcz16_0 := bc3_0 BK1001; have hcz16_1 := bc3_1 BK1001; have hcz16_2 := bc3_2 BK1001; have hfz16_0 := bf_ BK1001 0; have hfz16_1 := bf_ BK1001 1; have hfz16_2 := bf_ BK1001 2) | ((with_reducible refine gate_callee (f := 68) rfl ?_); refine goesL_ (some 28) rfl rfl Try.func68 (by kernel_rfl) rfl #[.string a0_2, .string a1] rfl ag_ ?_; (with_reducible refine (spec_l2Fits.calls k a0_2 a1 t1003 _ A14.out).mono ?_); rintro e w17 ⟨rfl, hb⟩; refine ⟨_, rfl, ?_⟩; have n0_ := am_ (blk_below (g := gb1001) (vk_ BK1001) hb); have n1_ := am_ (below_step bg_ hb); clear BK1001; clear HB; have BK1001 := n0_; have HB := n1_; clear n0_ n1_; (try clear hb); (try clear hb2); (try clear hk); (try clear hi)))
    go_ret
    exact ⟨rf_, bg_⟩

/-! ### spec_l2All: function 89 -/
def spec_l2All.l0 : Nat → List (S105) → List (S87) → Int → Int → Option (Bool)
 | 0, _, _, _, _ => none
 | k + 1, x1, x7, x8, x9 => if x9 < x8 then (if 0 ≤ x9 then (if x9 < (x7.length : Int) then ((spec_l2Of.f k x1 ((rd_T87 x7 x9).f0)).bind fun t1003 => ((spec_l2Match.f k ((rd_T87 x7 x9).f0) ((rd_T87 x7 x9).f1) ((rd_T87 x7 x9).f2) t1003).bind fun t1004 => (if t1004 = true then (spec_l2All.l0 k x1 x7 x8 (wrap64 (x9 + 1))) else (some false)))) else (none)) else (none)) else (some true)
def spec_l2All.f (k : Nat) (l0 : List (S87)) (l1 : List (S105)) : Option (Bool) := spec_l2All.l0 k l1 l0 (l0.length : Int) 0
theorem spec_l2All.mono_l : ∀ k, (∀ y0 y1 y2 y3, LeO (spec_l2All.l0 k y0 y1 y2 y3) (spec_l2All.l0 (k + 1) y0 y1 y2 y3))
 | 0 => fun _ _ _ _ r h => by simp [spec_l2All.l0] at h
 | k + 1 => by
  have ih0 := spec_l2All.mono_l k
  ·intro y0 y1 y2 y3
   unfold spec_l2All.l0
   repeat' first
   | with_reducible first | exact ih0 _ _ _ _ | exact spec_l2Match.mono _ _ _ _ _ | exact spec_l2Of.mono _ _ _ | exact LeO.refl _ | exact LeO.none _ | refine LeO.ite ?_ ?_ | refine LeO.bind ?_ (fun _ => ?_)
   | exact ih0 _ _ _ _
   | exact spec_l2Match.mono _ _ _ _ _
   | exact spec_l2Of.mono _ _ _
   | exact LeO.none _
   | refine LeO.ite ?_ ?_
   | refine LeO.bind ?_ (fun _ => ?_)
theorem spec_l2All.mono : ∀ a0 a1 k, LeO (spec_l2All.f k a0 a1) (spec_l2All.f (k + 1) a0 a1) := by
 intro a0 a1 k
 have ih0 := spec_l2All.mono_l k
 unfold spec_l2All.f
 repeat' first
   | with_reducible first | exact ih0 _ _ _ _ | exact spec_l2Match.mono _ _ _ _ _ | exact spec_l2Of.mono _ _ _ | exact LeO.refl _ | exact LeO.none _ | refine LeO.ite ?_ ?_ | refine LeO.bind ?_ (fun _ => ?_)
   | exact ih0 _ _ _ _
   | exact spec_l2Match.mono _ _ _ _ _
   | exact spec_l2Of.mono _ _ _
   | exact LeO.none _
   | refine LeO.ite ?_ ?_
   | refine LeO.bind ?_ (fun _ => ?_)
set_option maxHeartbeats 8000000 in
set_option maxRecDepth 100000 in
theorem spec_l2All.calls (k : Nat) (A0 : Option Addr) (c0 : Nat) (l0 : List (S87)) (A1 : Option Addr) (c1 : Nat) (l1 : List (S105)) (r : Bool) (w : World) (hr0 : Kd.C k87 w A0 l0.length l0) (hc0 : l0.length ≤ c0) (hr1 : Kd.C k105 w A1 l1.length l1) (hc1 : l1.length ≤ c1) (h : spec_l2All.f k l0 l1 = some r) :
  Calls Try.prog 89 #[.slice A0 l0.length c0, .slice A1 l1.length c1] w fun e w' => e = .returned (.bool r) ∧ Below w.heap.size w w' := by
 have hu87 := Try.underlying87
 have HR0 := am_ hr0
 have HC0 := am_ hc0
 clear hr0 hc0
 have HR1 := am_ hr1
 have HC1 := am_ hc1
 clear hr1 hc1
 have HB := am_ (Below.refl w.heap.size w)
 have H : (spec_l2All.l0 k l1 l0 (l0.length : Int) 0) = some r := h
 clear h
 have H' := am_ H
 clear H
 go_enter Try.func89, Try.ntmps89
 go_wp2
 go_loopg [9] k (fun kq v9 w' => ∃ (x9_1 : Int), v9 = .int .i64 x9_1 ∧ Aside0 (spec_l2All.l0 kq l1 l0 (l0.length : Int) x9_1 = some r) ∧ Aside0 (kq ≤ k) ∧ Aside0 (Below w.heap.size w w'))
 case atStart => exact ⟨(0), rs_, H', ⟨Nat.le_refl _⟩, ⟨bl_⟩⟩
 case round =>
  clear H'
  try clear c1
  try clear p2
  obtain ⟨x9_1, rfl, HA, HK1, HB⟩ := hrel
  cases gk with
  | zero => exact absurd HA.out (by simp [spec_l2All.l0])
  | succ k1 =>
   have H := HA.out
   clear HA
   simp only [spec_l2All.l0] at H
   by_cases c3 : x9_1 < (l0.length : Int)
   ·rw [if_pos c3] at H
    have c3b0 : decide (x9_1 < (l0.length : Int)) = true := decide_eq_true c3
    clear c3
    by_cases c4 : 0 ≤ x9_1
    ·rw [if_pos c4] at H
     have c4b0 : decide (0 ≤ x9_1) = true := decide_eq_true c4
     clear c4
     by_cases c5 : x9_1 < (l0.length : Int)
     ·rw [if_pos c5] at H
      have c5b0 : decide (x9_1 < (l0.length : Int)) = true := decide_eq_true c5
      clear c5
      replace H := Option.bind_eq_some_iff.mp H
      obtain ⟨t1003, A60, H⟩ := H
      replace H : ((spec_l2Match.f k1 ((rd_T87 l0 x9_1).f0) ((rd_T87 l0 x9_1).f1) ((rd_T87 l0 x9_1).f2) t1003).bind fun t1004 => (if t1004 = true then (spec_l2All.l0 k1 l1 l0 (l0.length : Int) (wrap64 (x9_1 + 1))) else (some false))) = some r := H
      have A6 := am_ A60
      clear A60
      replace H := Option.bind_eq_some_iff.mp H
      obtain ⟨t1004, A70, H⟩ := H
      replace H : (if t1004 = true then (spec_l2All.l0 k1 l1 l0 (l0.length : Int) (wrap64 (x9_1 + 1))) else (some false)) = some r := H
      have A7 := am_ A70
      clear A70
      by_cases c8 : t1004 = true
      ·subst c8
       have H1 : (spec_l2All.l0 k1 l1 l0 (l0.length : Int) (wrap64 (x9_1 + 1))) = some r := by rw [if_pos rfl] at H; exact H
       clear H
       have H := H1
       clear H1
       have H' := am_ H
       clear H
       have p1001 : 0 ≤ (x9_1 : Int) := od_
       have q1001 : x9_1 < (l0.length : Int) := od_
       obtain ⟨ad1001, e1001, hx1001_0, hx1001_1, hx1001_2⟩ := at_T87 HR0.out x9_1 p1001 q1001
       cases e1001
       replace hx1001_0 := kp_ HB hx1001_0
       replace hx1001_1 := kp_ HB hx1001_1
       replace hx1001_2 := kp_ HB hx1001_2
       replace p1001 := eq_true p1001
       replace q1001 := eq_true q1001
       try go_wp2_with (first | ((with_reducible refine gate_dst (N := 6) rfl ?_); refine box_event ?hg (N := 6) ?hd (cs := #[.string (⟨#[]⟩ : ByteArray), .int .i64 0, .string (⟨#[]⟩ : ByteArray)]) (t := 87) ?hr ?_; (case hd => rfl); (case hg => rfl); (case hr => first | (go_simp; done) | (go_simp; rfl)); intro gb1002 hg w9 hbox hb; have n0_ := am_ (below_step bl_ hb); have n1_ := am_ (hbox); have n2_ := am_ (gs_ hg : w.heap.size ≤ gb1002); have n3_ := n2_; clear HB; have HB := n0_; have BK1002 := n1_; have GW1002 := n2_; have GE1002 := n3_; clear n0_ n1_ n2_ n3_; clear hb hbox hg; have hcz10_0 := bc3_0 BK1002; have hcz10_1 := bc3_1 BK1002; have hcz10_2 := bc3_2 BK1002; have hfz10_0 := bf_ BK1002 0; have hfz10_1 := bf_ BK1002 1; have hfz10_2 := bf_ BK1002 2))
       have n0_ : Aside0 ((((w9.setCell ⟨gb1002, 0, none⟩ (.string ((rd_T87 l0 x9_1).f0))).setCell ⟨gb1002, 1, none⟩ (.int .i64 ((rd_T87 l0 x9_1).f1))).setCell ⟨gb1002, 2, none⟩ (.string ((rd_T87 l0 x9_1).f2))).heap[gb1002]? = some (.cells #[.string ((rd_T87 l0 x9_1).f0), .int .i64 ((rd_T87 l0 x9_1).f1), .string ((rd_T87 l0 x9_1).f2)] 87 (0, 0))) := ⟨by (with_reducible repeat (first | refine blk_drewN ?_ _ | refine blk_drew ?_ | refine blk_alloc ?_ _)); refine blk_put (cs := #[.string ((rd_T87 l0 x9_1).f0), .int .i64 ((rd_T87 l0 x9_1).f1), .string (⟨#[]⟩ : ByteArray)]) ?_ 2 _ rfl; (with_reducible repeat (first | refine blk_drewN ?_ _ | refine blk_drew ?_ | refine blk_alloc ?_ _)); refine blk_put (cs := #[.string ((rd_T87 l0 x9_1).f0), .int .i64 0, .string (⟨#[]⟩ : ByteArray)]) ?_ 1 _ rfl; (with_reducible repeat (first | refine blk_drewN ?_ _ | refine blk_drew ?_ | refine blk_alloc ?_ _)); refine blk_put (cs := #[.string (⟨#[]⟩ : ByteArray), .int .i64 0, .string (⟨#[]⟩ : ByteArray)]) ?_ 0 _ rfl; (with_reducible repeat (first | refine blk_drewN ?_ _ | refine blk_drew ?_ | refine blk_alloc ?_ _)); exact BK1002.out⟩
       have n1_ : Aside0 (Below w.heap.size w (((w9.setCell ⟨gb1002, 0, none⟩ (.string ((rd_T87 l0 x9_1).f0))).setCell ⟨gb1002, 1, none⟩ (.int .i64 ((rd_T87 l0 x9_1).f1))).setCell ⟨gb1002, 2, none⟩ (.string ((rd_T87 l0 x9_1).f2)))) := ⟨bg_⟩
       (try clear BK1002)
       (try clear HB)
       generalize (((w9.setCell ⟨gb1002, 0, none⟩ (.string ((rd_T87 l0 x9_1).f0))).setCell ⟨gb1002, 1, none⟩ (.int .i64 ((rd_T87 l0 x9_1).f1))).setCell ⟨gb1002, 2, none⟩ (.string ((rd_T87 l0 x9_1).f2))) = w11 at n0_ n1_ ⊢
       have BK1002 := n0_
       have HB := n1_
       clear n0_ n1_
       have n0_ := am_ (blk_drew BK1002.out)
       have n1_ := am_ (below_drew1 HB.out)
       clear BK1002
       clear HB
       have BK1002 := n0_
       have HB := n1_
       clear n0_ n1_
       refine start_ (n := 7) (S := fun w' => w'.cell? ⟨gb1002, 0, none⟩ = some (.string ((rd_T87 l0 x9_1).f0)) ∧ w'.cell? ⟨gb1002, 1, none⟩ = some (.int .i64 ((rd_T87 l0 x9_1).f1)) ∧ w'.cell? ⟨gb1002, 2, none⟩ = some (.string ((rd_T87 l0 x9_1).f2))) (ds := []) (bz 7 0) (by kernel_rfl) rfl rfl ⟨(blk_cell BK1002.out 0).trans rfl, (blk_cell BK1002.out 1).trans rfl, (blk_cell BK1002.out 2).trans rfl⟩ (fun hHeld => ?_)
       generalize w11.drew = w12 at BK1002 HB hHeld ⊢
       refine pure_ (i := 1) (N := some 14) (v := ?_) (a' := ?_) (bz 7 2) rfl rfl (by kernel_rfl) (fun _ _ _ h => h) (Or.inl ⟨by rfl, ?_⟩) ?_ ?_
       rotate_left
       ·intro w'
        go_simp
        with_reducible rfl
       rotate_left
       ·simp only [Act.put, List.setIfInBounds_toArray, List.set_cons_zero, List.set_cons_succ, i64_w, i32_w]
        rfl
       refine pure_ (i := 2) (N := some 15) (v := ?_) (a' := ?_) (bz 7 6) rfl rfl (by kernel_rfl) (fun _ _ _ h => h) (Or.inl ⟨by rfl, ?_⟩) ?_ ?_
       rotate_left
       ·intro w'
        go_simp
        with_reducible rfl
       rotate_left
       ·simp only [Act.put, List.setIfInBounds_toArray, List.set_cons_zero, List.set_cons_succ, i64_w, i32_w]
        rfl
       refine take_ (i := 0) (N := some 13) (v := ?_) (a' := ?_) (bz 7 7) rfl rfl (by kernel_rfl) (fun _ _ _ h => h) (Or.inl ⟨by rfl, ?_⟩) hHeld ?_ ?_
       rotate_left
       ·rintro w' ⟨s0, s1, s2⟩
        go_simp
        with_reducible rfl
       rotate_left
       ·simp only [Act.put, List.setIfInBounds_toArray, List.set_cons_zero, List.set_cons_succ, i64_w, i32_w]
        rfl
       refine take_ (i := 3) (N := some 16) (v := ?_) (a' := ?_) (bz 7 15) rfl rfl (by kernel_rfl) (fun _ _ _ h => h) (Or.inl ⟨by rfl, ?_⟩) hHeld ?_ ?_
       rotate_left
       ·rintro w' ⟨s0, s1, s2⟩
        go_simp
        with_reducible rfl
       rotate_left
       ·simp only [Act.put, List.setIfInBounds_toArray, List.set_cons_zero, List.set_cons_succ, i64_w, i32_w]
        rfl
       refine one_ (i := 4) (N := some 17) (bz 7 31) rfl rfl (by kernel_rfl) (by decide) (fun K hK => ?_)
       refine goes_ Try.func129 (by kernel_rfl) rfl #[.slice A1 l1.length c1, .string ((rd_T87 l0 x9_1).f0)] (by rfl) rfl rfl ag_ ?_
       with_reducible refine (spec_l2Of.calls k1 _ _ l1 ((rd_T87 l0 x9_1).f0) t1003 _ ?side1 ?side2 A6.out).mono ?_
       (case side1 => exact cc_ (Kd.C_below HR1.out HB.out))
       (case side2 => exact HC1.out)
       rintro e w13 ⟨rfl, hb⟩
       refine ⟨_, rfl, ?_⟩
       have n0_ := am_ (blk_below (g := gb1002) (vk_ BK1002) hb)
       have n1_ := am_ (below_step bg_ hb)
       clear BK1002
       clear HB
       have BK1002 := n0_
       have HB := n1_
       clear n0_ n1_
       (try clear hb)
       (try clear hb2)
       (try clear hk)
       (try clear hi)
       refine hK.out _ _ ⟨(blk_cell BK1002.out 0).trans rfl, (blk_cell BK1002.out 1).trans rfl, (blk_cell BK1002.out 2).trans rfl⟩ (fun hHeld => ?_)
       clear hK K
       refine norm_ (a' := ?_) ?_ ?_
       rotate_left
       ·show Act.put _ (some 17) _ = _
        simp only [Act.put, List.setIfInBounds_toArray, List.set_cons_zero, List.set_cons_succ, i64_w, i32_w]
        rfl
       refine one_ (i := 5) (N := some 18) (bz 7 63) rfl rfl (by kernel_rfl) (by decide) (fun K hK => ?_)
       refine goes_ Try.func128 (by kernel_rfl) rfl #[.agg #[.string ((rd_T87 l0 x9_1).f0), .int .i64 ((rd_T87 l0 x9_1).f1), .string ((rd_T87 l0 x9_1).f2)], .string t1003] (by rfl) rfl rfl ag_ ?_
       with_reducible refine (spec_l2Match.calls k1 ((rd_T87 l0 x9_1).f0) ((rd_T87 l0 x9_1).f1) ((rd_T87 l0 x9_1).f2) t1003 true _ A7.out).mono ?_
       rintro e w14 ⟨rfl, hb⟩
       refine ⟨_, rfl, ?_⟩
       have n0_ := am_ (blk_below (g := gb1002) (vk_ BK1002) hb)
       have n1_ := am_ (below_step bg_ hb)
       clear BK1002
       clear HB
       have BK1002 := n0_
       have HB := n1_
       clear n0_ n1_
       (try clear hb)
       (try clear hb2)
       (try clear hk)
       (try clear hi)
       refine hK.out _ _ ⟨(blk_cell BK1002.out 0).trans rfl, (blk_cell BK1002.out 1).trans rfl, (blk_cell BK1002.out 2).trans rfl⟩ (fun hHeld => ?_)
       clear hK K
       refine norm_ (a' := ?_) ?_ ?_
       rotate_left
       ·show Act.put _ (some 18) _ = _
        simp only [Act.put, List.setIfInBounds_toArray, List.set_cons_zero, List.set_cons_succ, i64_w, i32_w]
        rfl
       refine pure_ (i := 6) (N := some 19) (v := ?_) (a' := ?_) (bz 7 127) rfl rfl (by kernel_rfl) (fun _ _ _ h => h) (Or.inl ⟨by rfl, ?_⟩) ?_ ?_
       rotate_left
       ·intro w'
        go_simp
        with_reducible rfl
       rotate_left
       ·simp only [Act.put, List.setIfInBounds_toArray, List.set_cons_zero, List.set_cons_succ, i64_w, i32_w]
        rfl
       refine done_ (by kernel_rfl) ?_
       try go_wp2
       go_roundg k1
       case measure => have := HK1.out; omega
       case rel => exact ⟨(wrap64 (x9_1 + 1)), rs_, H', ⟨by have := HK1.out; omega⟩, ⟨bg_⟩⟩
      ·replace c8 := Bool.eq_false_iff.mpr c8
       subst c8
       have H1 : (some false) = some r := by rw [if_neg (show ¬ (false = true) by decide)] at H; exact H
       clear H
       have H := H1
       clear H1
       obtain rfl := Option.some.inj H
       have p1001 : 0 ≤ (x9_1 : Int) := od_
       have q1001 : x9_1 < (l0.length : Int) := od_
       obtain ⟨ad1001, e1001, hx1001_0, hx1001_1, hx1001_2⟩ := at_T87 HR0.out x9_1 p1001 q1001
       cases e1001
       replace hx1001_0 := kp_ HB hx1001_0
       replace hx1001_1 := kp_ HB hx1001_1
       replace hx1001_2 := kp_ HB hx1001_2
       replace p1001 := eq_true p1001
       replace q1001 := eq_true q1001
       try go_wp2_with (first | ((with_reducible refine gate_dst (N := 6) rfl ?_); refine box_event ?hg (N := 6) ?hd (cs := #[.string (⟨#[]⟩ : ByteArray), .int .i64 0, .string (⟨#[]⟩ : ByteArray)]) (t := 87) ?hr ?_; (case hd => rfl); (case hg => rfl); (case hr => first | (go_simp; done) | (go_simp; rfl)); intro gb1002 hg w15 hbox hb; have n0_ := am_ (below_step bl_ hb); have n1_ := am_ (hbox); have n2_ := am_ (gs_ hg : w.heap.size ≤ gb1002); have n3_ := n2_; clear HB; have HB := n0_; have BK1002 := n1_; have GW1002 := n2_; have GE1002 := n3_; clear n0_ n1_ n2_ n3_; clear hb hbox hg; have hcz16_0 := bc3_0 BK1002; have hcz16_1 := bc3_1 BK1002; have hcz16_2 := bc3_2 BK1002; have hfz16_0 := bf_ BK1002 0; have hfz16_1 := bf_ BK1002 1; have hfz16_2 := bf_ BK1002 2))
       have n0_ : Aside0 ((((w15.setCell ⟨gb1002, 0, none⟩ (.string ((rd_T87 l0 x9_1).f0))).setCell ⟨gb1002, 1, none⟩ (.int .i64 ((rd_T87 l0 x9_1).f1))).setCell ⟨gb1002, 2, none⟩ (.string ((rd_T87 l0 x9_1).f2))).heap[gb1002]? = some (.cells #[.string ((rd_T87 l0 x9_1).f0), .int .i64 ((rd_T87 l0 x9_1).f1), .string ((rd_T87 l0 x9_1).f2)] 87 (0, 0))) := ⟨by (with_reducible repeat (first | refine blk_drewN ?_ _ | refine blk_drew ?_ | refine blk_alloc ?_ _)); refine blk_put (cs := #[.string ((rd_T87 l0 x9_1).f0), .int .i64 ((rd_T87 l0 x9_1).f1), .string (⟨#[]⟩ : ByteArray)]) ?_ 2 _ rfl; (with_reducible repeat (first | refine blk_drewN ?_ _ | refine blk_drew ?_ | refine blk_alloc ?_ _)); refine blk_put (cs := #[.string ((rd_T87 l0 x9_1).f0), .int .i64 0, .string (⟨#[]⟩ : ByteArray)]) ?_ 1 _ rfl; (with_reducible repeat (first | refine blk_drewN ?_ _ | refine blk_drew ?_ | refine blk_alloc ?_ _)); refine blk_put (cs := #[.string (⟨#[]⟩ : ByteArray), .int .i64 0, .string (⟨#[]⟩ : ByteArray)]) ?_ 0 _ rfl; (with_reducible repeat (first | refine blk_drewN ?_ _ | refine blk_drew ?_ | refine blk_alloc ?_ _)); exact BK1002.out⟩
       have n1_ : Aside0 (Below w.heap.size w (((w15.setCell ⟨gb1002, 0, none⟩ (.string ((rd_T87 l0 x9_1).f0))).setCell ⟨gb1002, 1, none⟩ (.int .i64 ((rd_T87 l0 x9_1).f1))).setCell ⟨gb1002, 2, none⟩ (.string ((rd_T87 l0 x9_1).f2)))) := ⟨bg_⟩
       (try clear BK1002)
       (try clear HB)
       generalize (((w15.setCell ⟨gb1002, 0, none⟩ (.string ((rd_T87 l0 x9_1).f0))).setCell ⟨gb1002, 1, none⟩ (.int .i64 ((rd_T87 l0 x9_1).f1))).setCell ⟨gb1002, 2, none⟩ (.string ((rd_T87 l0 x9_1).f2))) = w17 at n0_ n1_ ⊢
       have BK1002 := n0_
       have HB := n1_
       clear n0_ n1_
       have n0_ := am_ (blk_drew BK1002.out)
       have n1_ := am_ (below_drew1 HB.out)
       clear BK1002
       clear HB
       have BK1002 := n0_
       have HB := n1_
       clear n0_ n1_
       refine start_ (n := 7) (S := fun w' => w'.cell? ⟨gb1002, 0, none⟩ = some (.string ((rd_T87 l0 x9_1).f0)) ∧ w'.cell? ⟨gb1002, 1, none⟩ = some (.int .i64 ((rd_T87 l0 x9_1).f1)) ∧ w'.cell? ⟨gb1002, 2, none⟩ = some (.string ((rd_T87 l0 x9_1).f2))) (ds := []) (bz 7 0) (by kernel_rfl) rfl rfl ⟨(blk_cell BK1002.out 0).trans rfl, (blk_cell BK1002.out 1).trans rfl, (blk_cell BK1002.out 2).trans rfl⟩ (fun hHeld => ?_)
       generalize w17.drew = w18 at BK1002 HB hHeld ⊢
       refine pure_ (i := 1) (N := some 14) (v := ?_) (a' := ?_) (bz 7 2) rfl rfl (by kernel_rfl) (fun _ _ _ h => h) (Or.inl ⟨by rfl, ?_⟩) ?_ ?_
       rotate_left
       ·intro w'
        go_simp
        with_reducible rfl
       rotate_left
       ·simp only [Act.put, List.setIfInBounds_toArray, List.set_cons_zero, List.set_cons_succ, i64_w, i32_w]
        rfl
       refine pure_ (i := 2) (N := some 15) (v := ?_) (a' := ?_) (bz 7 6) rfl rfl (by kernel_rfl) (fun _ _ _ h => h) (Or.inl ⟨by rfl, ?_⟩) ?_ ?_
       rotate_left
       ·intro w'
        go_simp
        with_reducible rfl
       rotate_left
       ·simp only [Act.put, List.setIfInBounds_toArray, List.set_cons_zero, List.set_cons_succ, i64_w, i32_w]
        rfl
       refine take_ (i := 0) (N := some 13) (v := ?_) (a' := ?_) (bz 7 7) rfl rfl (by kernel_rfl) (fun _ _ _ h => h) (Or.inl ⟨by rfl, ?_⟩) hHeld ?_ ?_
       rotate_left
       ·rintro w' ⟨s0, s1, s2⟩
        go_simp
        with_reducible rfl
       rotate_left
       ·simp only [Act.put, List.setIfInBounds_toArray, List.set_cons_zero, List.set_cons_succ, i64_w, i32_w]
        rfl
       refine take_ (i := 3) (N := some 16) (v := ?_) (a' := ?_) (bz 7 15) rfl rfl (by kernel_rfl) (fun _ _ _ h => h) (Or.inl ⟨by rfl, ?_⟩) hHeld ?_ ?_
       rotate_left
       ·rintro w' ⟨s0, s1, s2⟩
        go_simp
        with_reducible rfl
       rotate_left
       ·simp only [Act.put, List.setIfInBounds_toArray, List.set_cons_zero, List.set_cons_succ, i64_w, i32_w]
        rfl
       refine one_ (i := 4) (N := some 17) (bz 7 31) rfl rfl (by kernel_rfl) (by decide) (fun K hK => ?_)
       refine goes_ Try.func129 (by kernel_rfl) rfl #[.slice A1 l1.length c1, .string ((rd_T87 l0 x9_1).f0)] (by rfl) rfl rfl ag_ ?_
       with_reducible refine (spec_l2Of.calls k1 _ _ l1 ((rd_T87 l0 x9_1).f0) t1003 _ ?side1 ?side2 A6.out).mono ?_
       (case side1 => exact cc_ (Kd.C_below HR1.out HB.out))
       (case side2 => exact HC1.out)
       rintro e w19 ⟨rfl, hb⟩
       refine ⟨_, rfl, ?_⟩
       have n0_ := am_ (blk_below (g := gb1002) (vk_ BK1002) hb)
       have n1_ := am_ (below_step bg_ hb)
       clear BK1002
       clear HB
       have BK1002 := n0_
       have HB := n1_
       clear n0_ n1_
       (try clear hb)
       (try clear hb2)
       (try clear hk)
       (try clear hi)
       refine hK.out _ _ ⟨(blk_cell BK1002.out 0).trans rfl, (blk_cell BK1002.out 1).trans rfl, (blk_cell BK1002.out 2).trans rfl⟩ (fun hHeld => ?_)
       clear hK K
       refine norm_ (a' := ?_) ?_ ?_
       rotate_left
       ·show Act.put _ (some 17) _ = _
        simp only [Act.put, List.setIfInBounds_toArray, List.set_cons_zero, List.set_cons_succ, i64_w, i32_w]
        rfl
       refine one_ (i := 5) (N := some 18) (bz 7 63) rfl rfl (by kernel_rfl) (by decide) (fun K hK => ?_)
       refine goes_ Try.func128 (by kernel_rfl) rfl #[.agg #[.string ((rd_T87 l0 x9_1).f0), .int .i64 ((rd_T87 l0 x9_1).f1), .string ((rd_T87 l0 x9_1).f2)], .string t1003] (by rfl) rfl rfl ag_ ?_
       with_reducible refine (spec_l2Match.calls k1 ((rd_T87 l0 x9_1).f0) ((rd_T87 l0 x9_1).f1) ((rd_T87 l0 x9_1).f2) t1003 false _ A7.out).mono ?_
       rintro e w20 ⟨rfl, hb⟩
       refine ⟨_, rfl, ?_⟩
       have n0_ := am_ (blk_below (g := gb1002) (vk_ BK1002) hb)
       have n1_ := am_ (below_step bg_ hb)
       clear BK1002
       clear HB
       have BK1002 := n0_
       have HB := n1_
       clear n0_ n1_
       (try clear hb)
       (try clear hb2)
       (try clear hk)
       (try clear hi)
       refine hK.out _ _ ⟨(blk_cell BK1002.out 0).trans rfl, (blk_cell BK1002.out 1).trans rfl, (blk_cell BK1002.out 2).trans rfl⟩ (fun hHeld => ?_)
       clear hK K
       refine norm_ (a' := ?_) ?_ ?_
       rotate_left
       ·show Act.put _ (some 18) _ = _
        simp only [Act.put, List.setIfInBounds_toArray, List.set_cons_zero, List.set_cons_succ, i64_w, i32_w]
        rfl
       refine pure_ (i := 6) (N := some 19) (v := ?_) (a' := ?_) (bz 7 127) rfl rfl (by kernel_rfl) (fun _ _ _ h => h) (Or.inl ⟨by rfl, ?_⟩) ?_ ?_
       rotate_left
       ·intro w'
        go_simp
        with_reducible rfl
       rotate_left
       ·simp only [Act.put, List.setIfInBounds_toArray, List.set_cons_zero, List.set_cons_succ, i64_w, i32_w]
        rfl
       refine done_ (by kernel_rfl) ?_
       try go_wp2
       go_ret
       exact ⟨rf_, bg_⟩
     ·rw [if_neg c5] at H
      exact absurd H (by simp)
    ·rw [if_neg c4] at H
     exact absurd H (by simp)
   ·rw [if_neg c3] at H
    have c3b0 : decide (x9_1 < (l0.length : Int)) = false := decide_eq_false c3
    clear c3
    obtain rfl := Option.some.inj H
    go_wp2
    go_ret
    exact ⟨rf_, bl_⟩

/-! ### spec_Fits: function 37 -/
def spec_Fits.f (k : Nat) (l0 : List (S87)) (l1 : List (S105)) : Option (Bool) := (spec_GoodMatchers.f k l0).bind fun t1001 => (if t1001 = true then ((spec_GoodLabels.f k l1).bind fun t1002 => (if t1002 = true then ((spec_l2All.f k l0 l1).bind fun t1003 => (some t1003)) else (some false))) else (some false))
theorem spec_Fits.mono : ∀ a0 a1 k, LeO (spec_Fits.f k a0 a1) (spec_Fits.f (k + 1) a0 a1) := by
 intro a0 a1 k
 unfold spec_Fits.f
 repeat' first
   | with_reducible first | exact spec_GoodLabels.mono _ _ | exact spec_GoodMatchers.mono _ _ | exact spec_l2All.mono _ _ _ | exact LeO.refl _ | exact LeO.none _ | refine LeO.ite ?_ ?_ | refine LeO.bind ?_ (fun _ => ?_)
   | exact spec_GoodLabels.mono _ _
   | exact spec_GoodMatchers.mono _ _
   | exact spec_l2All.mono _ _ _
   | exact LeO.none _
   | refine LeO.ite ?_ ?_
   | refine LeO.bind ?_ (fun _ => ?_)
set_option maxHeartbeats 8000000 in
set_option maxRecDepth 100000 in
theorem spec_Fits.calls (k : Nat) (A0 : Option Addr) (c0 : Nat) (l0 : List (S87)) (A1 : Option Addr) (c1 : Nat) (l1 : List (S105)) (r : Bool) (w : World) (hr0 : Kd.C k87 w A0 l0.length l0) (hc0 : l0.length ≤ c0) (hr1 : Kd.C k105 w A1 l1.length l1) (hc1 : l1.length ≤ c1) (h : spec_Fits.f k l0 l1 = some r) :
  Calls Try.prog 37 #[.slice A0 l0.length c0, .slice A1 l1.length c1] w fun e w' => e = .returned (.bool r) ∧ Below w.heap.size w w' := by
 have HR0 := am_ hr0
 have HC0 := am_ hc0
 clear hr0 hc0
 have HR1 := am_ hr1
 have HC1 := am_ hc1
 clear hr1 hc1
 have HB := am_ (Below.refl w.heap.size w)
 have H : ((spec_GoodMatchers.f k l0).bind fun t1001 => (if t1001 = true then ((spec_GoodLabels.f k l1).bind fun t1002 => (if t1002 = true then ((spec_l2All.f k l0 l1).bind fun t1003 => (some t1003)) else (some false))) else (some false))) = some r := h
 clear h
 replace H := Option.bind_eq_some_iff.mp H
 obtain ⟨t1001, A30, H⟩ := H
 replace H : (if t1001 = true then ((spec_GoodLabels.f k l1).bind fun t1002 => (if t1002 = true then ((spec_l2All.f k l0 l1).bind fun t1003 => (some t1003)) else (some false))) else (some false)) = some r := H
 have A3 := am_ A30
 clear A30
 by_cases c4 : t1001 = true
 ·subst c4
  have H1 : ((spec_GoodLabels.f k l1).bind fun t1002 => (if t1002 = true then ((spec_l2All.f k l0 l1).bind fun t1003 => (some t1003)) else (some false))) = some r := by rw [if_pos rfl] at H; exact H
  clear H
  have H := H1
  clear H1
  replace H := Option.bind_eq_some_iff.mp H
  obtain ⟨t1002, A50, H⟩ := H
  replace H : (if t1002 = true then ((spec_l2All.f k l0 l1).bind fun t1003 => (some t1003)) else (some false)) = some r := H
  have A5 := am_ A50
  clear A50
  by_cases c6 : t1002 = true
  ·subst c6
   have H1 : ((spec_l2All.f k l0 l1).bind fun t1003 => (some t1003)) = some r := by rw [if_pos rfl] at H; exact H
   clear H
   have H := H1
   clear H1
   replace H := Option.bind_eq_some_iff.mp H
   obtain ⟨t1003, A70, H⟩ := H
   replace H : (some t1003) = some r := H
   have A7 := am_ A70
   clear A70
   obtain rfl := Option.some.inj H
   go_enter Try.func37, Try.ntmps37
   go_wp2_with (first | ((with_reducible refine gate_callee (f := 23) rfl ?_); refine goesL_ (some 6) rfl rfl Try.func23 (by kernel_rfl) rfl #[.slice A0 l0.length c0] rfl ag_ ?_; (with_reducible refine (spec_GoodMatchers.calls k _ _ l0 true _ ?side1 ?side2 A3.out).mono ?_); (case side1 => repeat (first | exact HR0.out | (with_reducible refine Kd.C_alloc ?_ _) | (with_reducible refine Kd.C_drewN ?_ _) | (with_reducible refine Kd.C_drew ?_))); (case side2 => exact HC0.out); rintro e w8 ⟨rfl, hb⟩; refine ⟨_, rfl, ?_⟩; have n0_ := am_ (below_step bl_ hb); clear HB; have HB := n0_; clear n0_; (try clear hb); (try clear hb2); (try clear hk); (try clear hi)) | (go_at_call 88; (with_reducible refine (spec_GoodLabels.calls k _ _ l1 true _ ?side1 ?side2 A5.out).mono ?_); (case side1 => exact cc_ (Kd.C_below HR1.out HB.out)); (case side2 => exact HC1.out); rintro e w9 ⟨rfl, hb⟩; have n0_ := am_ (below_step bl_ hb); clear HB; have HB := n0_; clear n0_; (try clear hb); (try clear hb2); (try clear hk); (try clear hi)) | (go_at_call 89; (with_reducible refine (spec_l2All.calls k _ _ l0 _ _ l1 t1003 _ ?side1 ?side2 ?side3 ?side4 A7.out).mono ?_); (case side1 => exact cc_ (Kd.C_below HR0.out HB.out)); (case side2 => exact HC0.out); (case side3 => exact cc_ (Kd.C_below HR1.out HB.out)); (case side4 => exact HC1.out); rintro e w10 ⟨rfl, hb⟩; have n0_ := am_ (below_step bl_ hb); clear HB; have HB := n0_; clear n0_; (try clear hb); (try clear hb2); (try clear hk); (try clear hi)))
   go_ret
   exact ⟨rf_, bl_⟩
  ·replace c6 := Bool.eq_false_iff.mpr c6
   subst c6
   have H1 : (some false) = some r := by rw [if_neg (show ¬ (false = true) by decide)] at H; exact H
   clear H
   have H := H1
   clear H1
   obtain rfl := Option.some.inj H
   go_enter Try.func37, Try.ntmps37
   go_wp2_with (first | ((with_reducible refine gate_callee (f := 23) rfl ?_); refine goesL_ (some 6) rfl rfl Try.func23 (by kernel_rfl) rfl #[.slice A0 l0.length c0] rfl ag_ ?_; (with_reducible refine (spec_GoodMatchers.calls k _ _ l0 true _ ?side1 ?side2 A3.out).mono ?_); (case side1 => repeat (first | exact HR0.out | (with_reducible refine Kd.C_alloc ?_ _) | (with_reducible refine Kd.C_drewN ?_ _) | (with_reducible refine Kd.C_drew ?_))); (case side2 => exact HC0.out); rintro e w11 ⟨rfl, hb⟩; refine ⟨_, rfl, ?_⟩; have n0_ := am_ (below_step bl_ hb); clear HB; have HB := n0_; clear n0_; (try clear hb); (try clear hb2); (try clear hk); (try clear hi)) | (go_at_call 88; (with_reducible refine (spec_GoodLabels.calls k _ _ l1 false _ ?side1 ?side2 A5.out).mono ?_); (case side1 => exact cc_ (Kd.C_below HR1.out HB.out)); (case side2 => exact HC1.out); rintro e w12 ⟨rfl, hb⟩; have n0_ := am_ (below_step bl_ hb); clear HB; have HB := n0_; clear n0_; (try clear hb); (try clear hb2); (try clear hk); (try clear hi)))
   go_ret
   exact ⟨rf_, bl_⟩
 ·replace c4 := Bool.eq_false_iff.mpr c4
  subst c4
  have H1 : (some false) = some r := by rw [if_neg (show ¬ (false = true) by decide)] at H; exact H
  clear H
  have H := H1
  clear H1
  obtain rfl := Option.some.inj H
  go_enter Try.func37, Try.ntmps37
  go_wp2_with (first | ((with_reducible refine gate_callee (f := 23) rfl ?_); refine goesL_ (some 6) rfl rfl Try.func23 (by kernel_rfl) rfl #[.slice A0 l0.length c0] rfl ag_ ?_; (with_reducible refine (spec_GoodMatchers.calls k _ _ l0 false _ ?side1 ?side2 A3.out).mono ?_); (case side1 => repeat (first | exact HR0.out | (with_reducible refine Kd.C_alloc ?_ _) | (with_reducible refine Kd.C_drewN ?_ _) | (with_reducible refine Kd.C_drew ?_))); (case side2 => exact HC0.out); rintro e w13 ⟨rfl, hb⟩; refine ⟨_, rfl, ?_⟩; have n0_ := am_ (below_step bl_ hb); clear HB; have HB := n0_; clear n0_; (try clear hb); (try clear hb2); (try clear hk); (try clear hi)))
  go_ret
  exact ⟨rf_, bl_⟩

/-! ### impl_fitsOne: function 131 -/
def impl_fitsOne.f (k : Nat) (a0_0 : ByteArray) (a0_1 : Int) (a0_2 : ByteArray) (l1 : List (S105)) : Option (Bool) := (impl_valueOf.f k l1 a0_0).bind fun t1002 => (if a0_1 = 1 then (some (t1002.toList == a0_2.toList)) else (if a0_1 = 2 then (some (t1002.toList != a0_2.toList)) else (if a0_1 = 3 then ((impl_PatternFits.f k a0_2 t1002).bind fun t1003 => (some t1003)) else ((impl_PatternFits.f k a0_2 t1002).bind fun t1004 => (some (!t1004))))))
theorem impl_fitsOne.mono : ∀ a0 a1 a2 a3 k, LeO (impl_fitsOne.f k a0 a1 a2 a3) (impl_fitsOne.f (k + 1) a0 a1 a2 a3) := by
 intro a0 a1 a2 a3 k
 unfold impl_fitsOne.f
 repeat' first
   | with_reducible first | exact impl_PatternFits.mono _ _ _ | exact impl_valueOf.mono _ _ _ | exact LeO.refl _ | exact LeO.none _ | refine LeO.ite ?_ ?_ | refine LeO.bind ?_ (fun _ => ?_)
   | exact impl_PatternFits.mono _ _ _
   | exact impl_valueOf.mono _ _ _
   | exact LeO.none _
   | refine LeO.ite ?_ ?_
   | refine LeO.bind ?_ (fun _ => ?_)
set_option maxHeartbeats 8000000 in
set_option maxRecDepth 100000 in
theorem impl_fitsOne.calls (k : Nat) (a0_0 : ByteArray) (a0_1 : Int) (a0_2 : ByteArray) (A1 : Option Addr) (c1 : Nat) (l1 : List (S105)) (r : Bool) (w : World) (hr1 : Kd.C k105 w A1 l1.length l1) (hc1 : l1.length ≤ c1) (h : impl_fitsOne.f k a0_0 a0_1 a0_2 l1 = some r) :
  Calls Try.prog 131 #[.agg #[.string a0_0, .int .i64 a0_1, .string a0_2], .slice A1 l1.length c1] w fun e w' => e = .returned (.bool r) ∧ Below w.heap.size w w' := by
 have hu87 := Try.underlying87
 have HR1 := am_ hr1
 have HC1 := am_ hc1
 clear hr1 hc1
 have HB := am_ (Below.refl w.heap.size w)
 have H : ((impl_valueOf.f k l1 a0_0).bind fun t1002 => (if a0_1 = 1 then (some (t1002.toList == a0_2.toList)) else (if a0_1 = 2 then (some (t1002.toList != a0_2.toList)) else (if a0_1 = 3 then ((impl_PatternFits.f k a0_2 t1002).bind fun t1003 => (some t1003)) else ((impl_PatternFits.f k a0_2 t1002).bind fun t1004 => (some (!t1004))))))) = some r := h
 clear h
 replace H := Option.bind_eq_some_iff.mp H
 obtain ⟨t1002, A30, H⟩ := H
 replace H : (if a0_1 = 1 then (some (t1002.toList == a0_2.toList)) else (if a0_1 = 2 then (some (t1002.toList != a0_2.toList)) else (if a0_1 = 3 then ((impl_PatternFits.f k a0_2 t1002).bind fun t1003 => (some t1003)) else ((impl_PatternFits.f k a0_2 t1002).bind fun t1004 => (some (!t1004)))))) = some r := H
 have A3 := am_ A30
 clear A30
 by_cases c4 : a0_1 = 1
 ·rw [if_pos c4] at H
  have c4b0 : (a0_1 == 1) = true := beq_iff_eq.mpr c4
  have c4b1 : (a0_1 != 1) = false := bne_eq_false_iff_eq.mpr c4
  clear c4
  obtain rfl := Option.some.inj H
  go_enter Try.func131, Try.ntmps131
  go_wp2_with (first | ((with_reducible refine gate_dst (N := 2) rfl ?_); refine box_event ?hg (N := 2) ?hd (cs := #[.string a0_0, .int .i64 a0_1, .string a0_2]) (t := 87) ?hr ?_; (case hd => rfl); (case hg => rfl); (case hr => first | (go_simp; done) | (go_simp; rfl)); intro gb1001 hg w5 hbox hb; have n0_ := am_ (below_step bl_ hb); have n1_ := am_ (hbox); have n2_ := am_ (gs_ hg : w.heap.size ≤ gb1001); have n3_ := n2_; clear HB; have HB := n0_; have BK1001 := n1_; have GW1001 := n2_; have GE1001 := n3_; clear n0_ n1_ n2_ n3_; clear hb hbox hg; have hcz6_0 := bc3_0 BK1001; have hcz6_1 := bc3_1 BK1001; have hcz6_2 := bc3_2 BK1001; have hfz6_0 := bf_ BK1001 0; have hfz6_1 := bf_ BK1001 1; have hfz6_2 := bf_ BK1001 2) | ((with_reducible refine gate_callee (f := 98) rfl ?_); refine goesL_ (some 9) rfl rfl Try.func98 (by kernel_rfl) rfl #[.slice A1 l1.length c1, .string a0_0] rfl ag_ ?_; (with_reducible refine (impl_valueOf.calls k _ _ l1 a0_0 t1002 _ ?side1 ?side2 A3.out).mono ?_); (case side1 => exact cc_ (Kd.C_below HR1.out HB.out)); (case side2 => exact HC1.out); rintro e w7 ⟨rfl, hb⟩; refine ⟨_, rfl, ?_⟩; have n0_ := am_ (blk_below (g := gb1001) (vk_ BK1001) hb); have n1_ := am_ (below_step bg_ hb); clear BK1001; clear HB; have BK1001 := n0_; have HB := n1_; clear n0_ n1_; (try clear hb); (try clear hb2); (try clear hk); (try clear hi); have hcz8_0 := bc3_0 BK1001; have hcz8_1 := bc3_1 BK1001; have hcz8_2 := bc3_2 BK1001; have hfz8_0 := bf_ BK1001 0; have hfz8_1 := bf_ BK1001 1; have hfz8_2 := bf_ BK1001 2))
  go_ret
  exact ⟨rf_, bg_⟩
 ·rw [if_neg c4] at H
  have c4b0 : (a0_1 == 1) = false := beq_eq_false_iff_ne.mpr c4
  have c4b1 : (a0_1 != 1) = true := bne_iff_ne.mpr c4
  by_cases c9 : a0_1 = 2
  ·rw [if_pos c9] at H
   have c9b0 : (a0_1 == 2) = true := beq_iff_eq.mpr c9
   have c9b1 : (a0_1 != 2) = false := bne_eq_false_iff_eq.mpr c9
   clear c9
   obtain rfl := Option.some.inj H
   go_enter Try.func131, Try.ntmps131
   go_wp2_with (first | ((with_reducible refine gate_dst (N := 2) rfl ?_); refine box_event ?hg (N := 2) ?hd (cs := #[.string a0_0, .int .i64 a0_1, .string a0_2]) (t := 87) ?hr ?_; (case hd => rfl); (case hg => rfl); (case hr => first | (go_simp; done) | (go_simp; rfl)); intro gb1001 hg w10 hbox hb; have n0_ := am_ (below_step bl_ hb); have n1_ := am_ (hbox); have n2_ := am_ (gs_ hg : w.heap.size ≤ gb1001); have n3_ := n2_; clear HB; have HB := n0_; have BK1001 := n1_; have GW1001 := n2_; have GE1001 := n3_; clear n0_ n1_ n2_ n3_; clear hb hbox hg; have hcz11_0 := bc3_0 BK1001; have hcz11_1 := bc3_1 BK1001; have hcz11_2 := bc3_2 BK1001; have hfz11_0 := bf_ BK1001 0; have hfz11_1 := bf_ BK1001 1; have hfz11_2 := bf_ BK1001 2) | ((with_reducible refine gate_callee (f := 98) rfl ?_); refine goesL_ (some 9) rfl rfl Try.func98 (by kernel_rfl) rfl #[.slice A1 l1.length c1, .string a0_0] rfl ag_ ?_; (with_reducible refine (impl_valueOf.calls k _ _ l1 a0_0 t1002 _ ?side1 ?side2 A3.out).mono ?_); (case side1 => exact cc_ (Kd.C_below HR1.out HB.out)); (case side2 => exact HC1.out); rintro e w12 ⟨rfl, hb⟩; refine ⟨_, rfl, ?_⟩; have n0_ := am_ (blk_below (g := gb1001) (vk_ BK1001) hb); have n1_ := am_ (below_step bg_ hb); clear BK1001; clear HB; have BK1001 := n0_; have HB := n1_; clear n0_ n1_; (try clear hb); (try clear hb2); (try clear hk); (try clear hi); have hcz13_0 := bc3_0 BK1001; have hcz13_1 := bc3_1 BK1001; have hcz13_2 := bc3_2 BK1001; have hfz13_0 := bf_ BK1001 0; have hfz13_1 := bf_ BK1001 1; have hfz13_2 := bf_ BK1001 2))
   go_ret
   exact ⟨rf_, bg_⟩
  ·rw [if_neg c9] at H
   have c9b0 : (a0_1 == 2) = false := beq_eq_false_iff_ne.mpr c9
   have c9b1 : (a0_1 != 2) = true := bne_iff_ne.mpr c9
   by_cases c14 : a0_1 = 3
   ·rw [if_pos c14] at H
    have c14b0 : (a0_1 == 3) = true := beq_iff_eq.mpr c14
    have c14b1 : (a0_1 != 3) = false := bne_eq_false_iff_eq.mpr c14
    clear c14
    replace H := Option.bind_eq_some_iff.mp H
    obtain ⟨t1003, A150, H⟩ := H
    replace H : (some t1003) = some r := H
    have A15 := am_ A150
    clear A150
    obtain rfl := Option.some.inj H
    go_enter Try.func131, Try.ntmps131
    go_wp2_with (first | ((with_reducible refine gate_dst (N := 2) rfl ?_); refine box_event ?hg (N := 2) ?hd (cs := #[.string a0_0, .int .i64 a0_1, .string a0_2]) (t := 87) ?hr ?_; (case hd => rfl); (case hg => rfl); (case hr => first | (go_simp; done) | (go_simp; rfl)); intro gb1001 hg w16 hbox hb; have n0_ := am_ (below_step bl_ hb); have n1_ := am_ (hbox); have n2_ := am_ (gs_ hg : w.heap.size ≤ gb1001); have n3_ := n2_; clear HB; have HB := n0_; have BK1001 := n1_; have GW1001 := n2_; have GE1001 := n3_; clear n0_ n1_ n2_ n3_; clear hb hbox hg; have hcz17_0 := bc3_0 BK1001; have hcz17_1 := bc3_1 BK1001; have hcz17_2 := bc3_2 BK1001; have hfz17_0 := bf_ BK1001 0; have hfz17_1 := bf_ BK1001 1; have hfz17_2 := bf_ BK1001 2) | ((with_reducible refine gate_callee (f := 98) rfl ?_); refine goesL_ (some 9) rfl rfl Try.func98 (by kernel_rfl) rfl #[.slice A1 l1.length c1, .string a0_0] rfl ag_ ?_; (with_reducible refine (impl_valueOf.calls k _ _ l1 a0_0 t1002 _ ?side1 ?side2 A3.out).mono ?_); (case side1 => exact cc_ (Kd.C_below HR1.out HB.out)); (case side2 => exact HC1.out); rintro e w18 ⟨rfl, hb⟩; refine ⟨_, rfl, ?_⟩; have n0_ := am_ (blk_below (g := gb1001) (vk_ BK1001) hb); have n1_ := am_ (below_step bg_ hb); clear BK1001; clear HB; have BK1001 := n0_; have HB := n1_; clear n0_ n1_; (try clear hb); (try clear hb2); (try clear hk); (try clear hi); have hcz19_0 := bc3_0 BK1001; have hcz19_1 := bc3_1 BK1001; have hcz19_2 := bc3_2 BK1001; have hfz19_0 := bf_ BK1001 0; have hfz19_1 := bf_ BK1001 1; have hfz19_2 := bf_ BK1001 2) | ((with_reducible refine gate_callee (f := 21) rfl ?_); refine goesL_ (some 29) rfl rfl Try.func21 (by kernel_rfl) rfl #[.string a0_2, .string t1002] rfl ag_ ?_; (with_reducible refine (impl_PatternFits.calls k a0_2 t1002 t1003 _ A15.out).mono ?_); rintro e w20 ⟨rfl, hb⟩; refine ⟨_, rfl, ?_⟩; have n0_ := am_ (blk_below (g := gb1001) (vk_ BK1001) hb); have n1_ := am_ (below_step bg_ hb); clear BK1001; clear HB; have BK1001 := n0_; have HB := n1_; clear n0_ n1_; (try clear hb); (try clear hb2); (try clear hk); (try clear hi)))
    go_ret
    exact ⟨rf_, bg_⟩
   ·rw [if_neg c14] at H
    have c14b0 : (a0_1 == 3) = false := beq_eq_false_iff_ne.mpr c14
    have c14b1 : (a0_1 != 3) = true := bne_iff_ne.mpr c14
    replace H := Option.bind_eq_some_iff.mp H
    obtain ⟨t1004, A210, H⟩ := H
    replace H : (some (!t1004)) = some r := H
    have A21 := am_ A210
    clear A210
    obtain rfl := Option.some.inj H
    go_enter Try.func131, Try.ntmps131
    go_wp2_with (first | ((with_reducible refine gate_dst (N := 2) rfl ?_); refine box_event ?hg (N := 2) ?hd (cs := #[.string a0_0, .int .i64 a0_1, .string a0_2]) (t := 87) ?hr ?_; (case hd => rfl); (case hg => rfl); (case hr => first | (go_simp; done) | (go_simp; rfl)); intro gb1001 hg w22 hbox hb; have n0_ := am_ (below_step bl_ hb); have n1_ := am_ (hbox); have n2_ := am_ (gs_ hg : w.heap.size ≤ gb1001); have n3_ := n2_; clear HB; have HB := n0_; have BK1001 := n1_; have GW1001 := n2_; have GE1001 := n3_; clear n0_ n1_ n2_ n3_; clear hb hbox hg; have hcz23_0 := bc3_0 BK1001; have hcz23_1 := bc3_1 BK1001; have hcz23_2 := bc3_2 BK1001; have hfz23_0 := bf_ BK1001 0; have hfz23_1 := bf_ BK1001 1; have hfz23_2 := bf_ BK1001 2) | ((with_reducible refine gate_callee (f := 98) rfl ?_); refine goesL_ (some 9) rfl rfl Try.func98 (by kernel_rfl) rfl #[.slice A1 l1.length c1, .string a0_0] rfl ag_ ?_; (with_reducible refine (impl_valueOf.calls k _ _ l1 a0_0 t1002 _ ?side1 ?side2 A3.out).mono ?_); (case side1 => exact cc_ (Kd.C_below HR1.out HB.out)); (case side2 => exact HC1.out); rintro e w24 ⟨rfl, hb⟩; refine ⟨_, rfl, ?_⟩; have n0_ := am_ (blk_below (g := gb1001) (vk_ BK1001) hb); have n1_ := am_ (below_step bg_ hb); clear BK1001; clear HB; have BK1001 := n0_; have HB := n1_; clear n0_ n1_; (try clear hb); (try clear hb2); (try clear hk); (try clear hi); have hcz25_0 := bc3_0 BK1001; have hcz25_1 := bc3_1 BK1001; have hcz25_2 := bc3_2 BK1001; have hfz25_0 := bf_ BK1001 0; have hfz25_1 := bf_ BK1001 1; have hfz25_2 := bf_ BK1001 2) | ((with_reducible refine gate_callee (f := 21) rfl ?_); refine goesL_ (some 33) rfl rfl Try.func21 (by kernel_rfl) rfl #[.string a0_2, .string t1002] rfl ag_ ?_; (with_reducible refine (impl_PatternFits.calls k a0_2 t1002 t1004 _ A21.out).mono ?_); rintro e w26 ⟨rfl, hb⟩; refine ⟨_, rfl, ?_⟩; have n0_ := am_ (blk_below (g := gb1001) (vk_ BK1001) hb); have n1_ := am_ (below_step bg_ hb); clear BK1001; clear HB; have BK1001 := n0_; have HB := n1_; clear n0_ n1_; (try clear hb); (try clear hb2); (try clear hk); (try clear hi)))
    go_ret
    exact ⟨rf_, bg_⟩

/-! ### impl_fits: function 92 -/
def impl_fits.l0 : Nat → List (S105) → List (S87) → Int → Int → Option (Bool)
 | 0, _, _, _, _ => none
 | k + 1, x1, x7, x8, x9 => if x9 < x8 then (if 0 ≤ x9 then (if x9 < (x7.length : Int) then ((impl_fitsOne.f k ((rd_T87 x7 x9).f0) ((rd_T87 x7 x9).f1) ((rd_T87 x7 x9).f2) x1).bind fun t1003 => (if t1003 = true then (impl_fits.l0 k x1 x7 x8 (wrap64 (x9 + 1))) else (some false))) else (none)) else (none)) else (some true)
def impl_fits.f (k : Nat) (l0 : List (S87)) (l1 : List (S105)) : Option (Bool) := impl_fits.l0 k l1 l0 (l0.length : Int) 0
theorem impl_fits.mono_l : ∀ k, (∀ y0 y1 y2 y3, LeO (impl_fits.l0 k y0 y1 y2 y3) (impl_fits.l0 (k + 1) y0 y1 y2 y3))
 | 0 => fun _ _ _ _ r h => by simp [impl_fits.l0] at h
 | k + 1 => by
  have ih0 := impl_fits.mono_l k
  ·intro y0 y1 y2 y3
   unfold impl_fits.l0
   repeat' first
   | with_reducible first | exact ih0 _ _ _ _ | exact impl_fitsOne.mono _ _ _ _ _ | exact LeO.refl _ | exact LeO.none _ | refine LeO.ite ?_ ?_ | refine LeO.bind ?_ (fun _ => ?_)
   | exact ih0 _ _ _ _
   | exact impl_fitsOne.mono _ _ _ _ _
   | exact LeO.none _
   | refine LeO.ite ?_ ?_
   | refine LeO.bind ?_ (fun _ => ?_)
theorem impl_fits.mono : ∀ a0 a1 k, LeO (impl_fits.f k a0 a1) (impl_fits.f (k + 1) a0 a1) := by
 intro a0 a1 k
 have ih0 := impl_fits.mono_l k
 unfold impl_fits.f
 repeat' first
   | with_reducible first | exact ih0 _ _ _ _ | exact impl_fitsOne.mono _ _ _ _ _ | exact LeO.refl _ | exact LeO.none _ | refine LeO.ite ?_ ?_ | refine LeO.bind ?_ (fun _ => ?_)
   | exact ih0 _ _ _ _
   | exact impl_fitsOne.mono _ _ _ _ _
   | exact LeO.none _
   | refine LeO.ite ?_ ?_
   | refine LeO.bind ?_ (fun _ => ?_)
set_option maxHeartbeats 8000000 in
set_option maxRecDepth 100000 in
theorem impl_fits.calls (k : Nat) (A0 : Option Addr) (c0 : Nat) (l0 : List (S87)) (A1 : Option Addr) (c1 : Nat) (l1 : List (S105)) (r : Bool) (w : World) (hr0 : Kd.C k87 w A0 l0.length l0) (hc0 : l0.length ≤ c0) (hr1 : Kd.C k105 w A1 l1.length l1) (hc1 : l1.length ≤ c1) (h : impl_fits.f k l0 l1 = some r) :
  Calls Try.prog 92 #[.slice A0 l0.length c0, .slice A1 l1.length c1] w fun e w' => e = .returned (.bool r) ∧ Below w.heap.size w w' := by
 have hu87 := Try.underlying87
 have HR0 := am_ hr0
 have HC0 := am_ hc0
 clear hr0 hc0
 have HR1 := am_ hr1
 have HC1 := am_ hc1
 clear hr1 hc1
 have HB := am_ (Below.refl w.heap.size w)
 have H : (impl_fits.l0 k l1 l0 (l0.length : Int) 0) = some r := h
 clear h
 have H' := am_ H
 clear H
 go_enter Try.func92, Try.ntmps92
 go_wp2
 go_loopg [9] k (fun kq v9 w' => ∃ (x9_1 : Int), v9 = .int .i64 x9_1 ∧ Aside0 (impl_fits.l0 kq l1 l0 (l0.length : Int) x9_1 = some r) ∧ Aside0 (kq ≤ k) ∧ Aside0 (Below w.heap.size w w'))
 case atStart => exact ⟨(0), rs_, H', ⟨Nat.le_refl _⟩, ⟨bl_⟩⟩
 case round =>
  clear H'
  try clear c1
  try clear p2
  obtain ⟨x9_1, rfl, HA, HK1, HB⟩ := hrel
  cases gk with
  | zero => exact absurd HA.out (by simp [impl_fits.l0])
  | succ k1 =>
   have H := HA.out
   clear HA
   simp only [impl_fits.l0] at H
   by_cases c3 : x9_1 < (l0.length : Int)
   ·rw [if_pos c3] at H
    have c3b0 : decide (x9_1 < (l0.length : Int)) = true := decide_eq_true c3
    clear c3
    by_cases c4 : 0 ≤ x9_1
    ·rw [if_pos c4] at H
     have c4b0 : decide (0 ≤ x9_1) = true := decide_eq_true c4
     clear c4
     by_cases c5 : x9_1 < (l0.length : Int)
     ·rw [if_pos c5] at H
      have c5b0 : decide (x9_1 < (l0.length : Int)) = true := decide_eq_true c5
      clear c5
      replace H := Option.bind_eq_some_iff.mp H
      obtain ⟨t1003, A60, H⟩ := H
      replace H : (if t1003 = true then (impl_fits.l0 k1 l1 l0 (l0.length : Int) (wrap64 (x9_1 + 1))) else (some false)) = some r := H
      have A6 := am_ A60
      clear A60
      by_cases c7 : t1003 = true
      ·subst c7
       have H1 : (impl_fits.l0 k1 l1 l0 (l0.length : Int) (wrap64 (x9_1 + 1))) = some r := by rw [if_pos rfl] at H; exact H
       clear H
       have H := H1
       clear H1
       have H' := am_ H
       clear H
       have p1001 : 0 ≤ (x9_1 : Int) := od_
       have q1001 : x9_1 < (l0.length : Int) := od_
       obtain ⟨ad1001, e1001, hx1001_0, hx1001_1, hx1001_2⟩ := at_T87 HR0.out x9_1 p1001 q1001
       cases e1001
       replace hx1001_0 := kp_ HB hx1001_0
       replace hx1001_1 := kp_ HB hx1001_1
       replace hx1001_2 := kp_ HB hx1001_2
       replace p1001 := eq_true p1001
       replace q1001 := eq_true q1001
       go_wp2_with (first | ((with_reducible refine gate_dst (N := 6) rfl ?_); refine box_event ?hg (N := 6) ?hd (cs := #[.string (⟨#[]⟩ : ByteArray), .int .i64 0, .string (⟨#[]⟩ : ByteArray)]) (t := 87) ?hr ?_; (case hd => rfl); (case hg => rfl); (case hr => first | (go_simp; done) | (go_simp; rfl)); intro gb1002 hg w8 hbox hb; have n0_ := am_ (below_step bl_ hb); have n1_ := am_ (hbox); have n2_ := am_ (gs_ hg : w.heap.size ≤ gb1002); have n3_ := n2_; clear HB; have HB := n0_; have BK1002 := n1_; have GW1002 := n2_; have GE1002 := n3_; clear n0_ n1_ n2_ n3_; clear hb hbox hg; have hcz9_0 := bc3_0 BK1002; have hcz9_1 := bc3_1 BK1002; have hcz9_2 := bc3_2 BK1002; have hfz9_0 := bf_ BK1002 0; have hfz9_1 := bf_ BK1002 1; have hfz9_2 := bf_ BK1002 2) | ((with_reducible refine gate_callee (f := 131) rfl ?_); refine goesL_ (some 15) rfl rfl Try.func131 (by kernel_rfl) rfl #[.agg #[.string ((rd_T87 l0 x9_1).f0), .int .i64 ((rd_T87 l0 x9_1).f1), .string ((rd_T87 l0 x9_1).f2)], .slice A1 l1.length c1] rfl ag_ ?_; (with_reducible refine (impl_fitsOne.calls k1 ((rd_T87 l0 x9_1).f0) ((rd_T87 l0 x9_1).f1) ((rd_T87 l0 x9_1).f2) _ _ l1 true _ ?side1 ?side2 A6.out).mono ?_); (case side1 => exact Kd.C_below HR1.out bg_); (case side2 => exact HC1.out); rintro e w10 ⟨rfl, hb⟩; refine ⟨_, rfl, ?_⟩; have n0_ := am_ (blk_below (g := gb1002) (o := .cells #[.string ((rd_T87 l0 x9_1).f0), .int .i64 ((rd_T87 l0 x9_1).f1), .string ((rd_T87 l0 x9_1).f2)] 87 (0, 0)) (by (with_reducible repeat (first | refine blk_drewN ?_ _ | refine blk_drew ?_ | refine blk_alloc ?_ _)); refine blk_put (cs := #[.string ((rd_T87 l0 x9_1).f0), .int .i64 ((rd_T87 l0 x9_1).f1), .string (⟨#[]⟩ : ByteArray)]) ?_ 2 _ rfl; (with_reducible repeat (first | refine blk_drewN ?_ _ | refine blk_drew ?_ | refine blk_alloc ?_ _)); refine blk_put (cs := #[.string ((rd_T87 l0 x9_1).f0), .int .i64 0, .string (⟨#[]⟩ : ByteArray)]) ?_ 1 _ rfl; (with_reducible repeat (first | refine blk_drewN ?_ _ | refine blk_drew ?_ | refine blk_alloc ?_ _)); refine blk_put (cs := #[.string (⟨#[]⟩ : ByteArray), .int .i64 0, .string (⟨#[]⟩ : ByteArray)]) ?_ 0 _ rfl; (with_reducible repeat (first | refine blk_drewN ?_ _ | refine blk_drew ?_ | refine blk_alloc ?_ _)); exact BK1002.out) hb); have n1_ := am_ (below_step bg_ hb); clear BK1002; clear HB; have BK1002 := n0_; have HB := n1_; clear n0_ n1_; (try clear hb); (try clear hb2); (try clear hk); (try clear hi)))
       go_roundg k1
       case measure => have := HK1.out; omega
       case rel => exact ⟨(wrap64 (x9_1 + 1)), rs_, H', ⟨by have := HK1.out; omega⟩, ⟨bg_⟩⟩
      ·replace c7 := Bool.eq_false_iff.mpr c7
       subst c7
       have H1 : (some false) = some r := by rw [if_neg (show ¬ (false = true) by decide)] at H; exact H
       clear H
       have H := H1
       clear H1
       obtain rfl := Option.some.inj H
       have p1001 : 0 ≤ (x9_1 : Int) := od_
       have q1001 : x9_1 < (l0.length : Int) := od_
       obtain ⟨ad1001, e1001, hx1001_0, hx1001_1, hx1001_2⟩ := at_T87 HR0.out x9_1 p1001 q1001
       cases e1001
       replace hx1001_0 := kp_ HB hx1001_0
       replace hx1001_1 := kp_ HB hx1001_1
       replace hx1001_2 := kp_ HB hx1001_2
       replace p1001 := eq_true p1001
       replace q1001 := eq_true q1001
       go_wp2_with (first | ((with_reducible refine gate_dst (N := 6) rfl ?_); refine box_event ?hg (N := 6) ?hd (cs := #[.string (⟨#[]⟩ : ByteArray), .int .i64 0, .string (⟨#[]⟩ : ByteArray)]) (t := 87) ?hr ?_; (case hd => rfl); (case hg => rfl); (case hr => first | (go_simp; done) | (go_simp; rfl)); intro gb1002 hg w11 hbox hb; have n0_ := am_ (below_step bl_ hb); have n1_ := am_ (hbox); have n2_ := am_ (gs_ hg : w.heap.size ≤ gb1002); have n3_ := n2_; clear HB; have HB := n0_; have BK1002 := n1_; have GW1002 := n2_; have GE1002 := n3_; clear n0_ n1_ n2_ n3_; clear hb hbox hg; have hcz12_0 := bc3_0 BK1002; have hcz12_1 := bc3_1 BK1002; have hcz12_2 := bc3_2 BK1002; have hfz12_0 := bf_ BK1002 0; have hfz12_1 := bf_ BK1002 1; have hfz12_2 := bf_ BK1002 2) | ((with_reducible refine gate_callee (f := 131) rfl ?_); refine goesL_ (some 15) rfl rfl Try.func131 (by kernel_rfl) rfl #[.agg #[.string ((rd_T87 l0 x9_1).f0), .int .i64 ((rd_T87 l0 x9_1).f1), .string ((rd_T87 l0 x9_1).f2)], .slice A1 l1.length c1] rfl ag_ ?_; (with_reducible refine (impl_fitsOne.calls k1 ((rd_T87 l0 x9_1).f0) ((rd_T87 l0 x9_1).f1) ((rd_T87 l0 x9_1).f2) _ _ l1 false _ ?side1 ?side2 A6.out).mono ?_); (case side1 => exact Kd.C_below HR1.out bg_); (case side2 => exact HC1.out); rintro e w13 ⟨rfl, hb⟩; refine ⟨_, rfl, ?_⟩; have n0_ := am_ (blk_below (g := gb1002) (o := .cells #[.string ((rd_T87 l0 x9_1).f0), .int .i64 ((rd_T87 l0 x9_1).f1), .string ((rd_T87 l0 x9_1).f2)] 87 (0, 0)) (by (with_reducible repeat (first | refine blk_drewN ?_ _ | refine blk_drew ?_ | refine blk_alloc ?_ _)); refine blk_put (cs := #[.string ((rd_T87 l0 x9_1).f0), .int .i64 ((rd_T87 l0 x9_1).f1), .string (⟨#[]⟩ : ByteArray)]) ?_ 2 _ rfl; (with_reducible repeat (first | refine blk_drewN ?_ _ | refine blk_drew ?_ | refine blk_alloc ?_ _)); refine blk_put (cs := #[.string ((rd_T87 l0 x9_1).f0), .int .i64 0, .string (⟨#[]⟩ : ByteArray)]) ?_ 1 _ rfl; (with_reducible repeat (first | refine blk_drewN ?_ _ | refine blk_drew ?_ | refine blk_alloc ?_ _)); refine blk_put (cs := #[.string (⟨#[]⟩ : ByteArray), .int .i64 0, .string (⟨#[]⟩ : ByteArray)]) ?_ 0 _ rfl; (with_reducible repeat (first | refine blk_drewN ?_ _ | refine blk_drew ?_ | refine blk_alloc ?_ _)); exact BK1002.out) hb); have n1_ := am_ (below_step bg_ hb); clear BK1002; clear HB; have BK1002 := n0_; have HB := n1_; clear n0_ n1_; (try clear hb); (try clear hb2); (try clear hk); (try clear hi)))
       go_ret
       exact ⟨rf_, bg_⟩
     ·rw [if_neg c5] at H
      exact absurd H (by simp)
    ·rw [if_neg c4] at H
     exact absurd H (by simp)
   ·rw [if_neg c3] at H
    have c3b0 : decide (x9_1 < (l0.length : Int)) = false := decide_eq_false c3
    clear c3
    obtain rfl := Option.some.inj H
    go_wp2
    go_ret
    exact ⟨rf_, bl_⟩

/-! ### impl_Fits: function 39 -/
def impl_Fits.f (k : Nat) (l0 : List (S87)) (l1 : List (S105)) : Option (Bool) := (impl_GoodMatchers.f k l0).bind fun t1001 => (if t1001 = true then ((impl_GoodLabels.f k l1).bind fun t1002 => (if t1002 = true then ((impl_fits.f k l0 l1).bind fun t1003 => (some t1003)) else (some false))) else (some false))
theorem impl_Fits.mono : ∀ a0 a1 k, LeO (impl_Fits.f k a0 a1) (impl_Fits.f (k + 1) a0 a1) := by
 intro a0 a1 k
 unfold impl_Fits.f
 repeat' first
   | with_reducible first | exact impl_GoodLabels.mono _ _ | exact impl_GoodMatchers.mono _ _ | exact impl_fits.mono _ _ _ | exact LeO.refl _ | exact LeO.none _ | refine LeO.ite ?_ ?_ | refine LeO.bind ?_ (fun _ => ?_)
   | exact impl_GoodLabels.mono _ _
   | exact impl_GoodMatchers.mono _ _
   | exact impl_fits.mono _ _ _
   | exact LeO.none _
   | refine LeO.ite ?_ ?_
   | refine LeO.bind ?_ (fun _ => ?_)
set_option maxHeartbeats 8000000 in
set_option maxRecDepth 100000 in
theorem impl_Fits.calls (k : Nat) (A0 : Option Addr) (c0 : Nat) (l0 : List (S87)) (A1 : Option Addr) (c1 : Nat) (l1 : List (S105)) (r : Bool) (w : World) (hr0 : Kd.C k87 w A0 l0.length l0) (hc0 : l0.length ≤ c0) (hr1 : Kd.C k105 w A1 l1.length l1) (hc1 : l1.length ≤ c1) (h : impl_Fits.f k l0 l1 = some r) :
  Calls Try.prog 39 #[.slice A0 l0.length c0, .slice A1 l1.length c1] w fun e w' => e = .returned (.bool r) ∧ Below w.heap.size w w' := by
 have HR0 := am_ hr0
 have HC0 := am_ hc0
 clear hr0 hc0
 have HR1 := am_ hr1
 have HC1 := am_ hc1
 clear hr1 hc1
 have HB := am_ (Below.refl w.heap.size w)
 have H : ((impl_GoodMatchers.f k l0).bind fun t1001 => (if t1001 = true then ((impl_GoodLabels.f k l1).bind fun t1002 => (if t1002 = true then ((impl_fits.f k l0 l1).bind fun t1003 => (some t1003)) else (some false))) else (some false))) = some r := h
 clear h
 replace H := Option.bind_eq_some_iff.mp H
 obtain ⟨t1001, A30, H⟩ := H
 replace H : (if t1001 = true then ((impl_GoodLabels.f k l1).bind fun t1002 => (if t1002 = true then ((impl_fits.f k l0 l1).bind fun t1003 => (some t1003)) else (some false))) else (some false)) = some r := H
 have A3 := am_ A30
 clear A30
 by_cases c4 : t1001 = true
 ·subst c4
  have H1 : ((impl_GoodLabels.f k l1).bind fun t1002 => (if t1002 = true then ((impl_fits.f k l0 l1).bind fun t1003 => (some t1003)) else (some false))) = some r := by rw [if_pos rfl] at H; exact H
  clear H
  have H := H1
  clear H1
  replace H := Option.bind_eq_some_iff.mp H
  obtain ⟨t1002, A50, H⟩ := H
  replace H : (if t1002 = true then ((impl_fits.f k l0 l1).bind fun t1003 => (some t1003)) else (some false)) = some r := H
  have A5 := am_ A50
  clear A50
  by_cases c6 : t1002 = true
  ·subst c6
   have H1 : ((impl_fits.f k l0 l1).bind fun t1003 => (some t1003)) = some r := by rw [if_pos rfl] at H; exact H
   clear H
   have H := H1
   clear H1
   replace H := Option.bind_eq_some_iff.mp H
   obtain ⟨t1003, A70, H⟩ := H
   replace H : (some t1003) = some r := H
   have A7 := am_ A70
   clear A70
   obtain rfl := Option.some.inj H
   go_enter Try.func39, Try.ntmps39
   go_wp2_with (first | ((with_reducible refine gate_callee (f := 25) rfl ?_); refine goesL_ (some 6) rfl rfl Try.func25 (by kernel_rfl) rfl #[.slice A0 l0.length c0] rfl ag_ ?_; (with_reducible refine (impl_GoodMatchers.calls k _ _ l0 true _ ?side1 ?side2 A3.out).mono ?_); (case side1 => repeat (first | exact HR0.out | (with_reducible refine Kd.C_alloc ?_ _) | (with_reducible refine Kd.C_drewN ?_ _) | (with_reducible refine Kd.C_drew ?_))); (case side2 => exact HC0.out); rintro e w8 ⟨rfl, hb⟩; refine ⟨_, rfl, ?_⟩; have n0_ := am_ (below_step bl_ hb); clear HB; have HB := n0_; clear n0_; (try clear hb); (try clear hb2); (try clear hk); (try clear hi)) | (go_at_call 91; (with_reducible refine (impl_GoodLabels.calls k _ _ l1 true _ ?side1 ?side2 A5.out).mono ?_); (case side1 => exact cc_ (Kd.C_below HR1.out HB.out)); (case side2 => exact HC1.out); rintro e w9 ⟨rfl, hb⟩; have n0_ := am_ (below_step bl_ hb); clear HB; have HB := n0_; clear n0_; (try clear hb); (try clear hb2); (try clear hk); (try clear hi)) | (go_at_call 92; (with_reducible refine (impl_fits.calls k _ _ l0 _ _ l1 t1003 _ ?side1 ?side2 ?side3 ?side4 A7.out).mono ?_); (case side1 => exact cc_ (Kd.C_below HR0.out HB.out)); (case side2 => exact HC0.out); (case side3 => exact cc_ (Kd.C_below HR1.out HB.out)); (case side4 => exact HC1.out); rintro e w10 ⟨rfl, hb⟩; have n0_ := am_ (below_step bl_ hb); clear HB; have HB := n0_; clear n0_; (try clear hb); (try clear hb2); (try clear hk); (try clear hi)))
   go_ret
   exact ⟨rf_, bl_⟩
  ·replace c6 := Bool.eq_false_iff.mpr c6
   subst c6
   have H1 : (some false) = some r := by rw [if_neg (show ¬ (false = true) by decide)] at H; exact H
   clear H
   have H := H1
   clear H1
   obtain rfl := Option.some.inj H
   go_enter Try.func39, Try.ntmps39
   go_wp2_with (first | ((with_reducible refine gate_callee (f := 25) rfl ?_); refine goesL_ (some 6) rfl rfl Try.func25 (by kernel_rfl) rfl #[.slice A0 l0.length c0] rfl ag_ ?_; (with_reducible refine (impl_GoodMatchers.calls k _ _ l0 true _ ?side1 ?side2 A3.out).mono ?_); (case side1 => repeat (first | exact HR0.out | (with_reducible refine Kd.C_alloc ?_ _) | (with_reducible refine Kd.C_drewN ?_ _) | (with_reducible refine Kd.C_drew ?_))); (case side2 => exact HC0.out); rintro e w11 ⟨rfl, hb⟩; refine ⟨_, rfl, ?_⟩; have n0_ := am_ (below_step bl_ hb); clear HB; have HB := n0_; clear n0_; (try clear hb); (try clear hb2); (try clear hk); (try clear hi)) | (go_at_call 91; (with_reducible refine (impl_GoodLabels.calls k _ _ l1 false _ ?side1 ?side2 A5.out).mono ?_); (case side1 => exact cc_ (Kd.C_below HR1.out HB.out)); (case side2 => exact HC1.out); rintro e w12 ⟨rfl, hb⟩; have n0_ := am_ (below_step bl_ hb); clear HB; have HB := n0_; clear n0_; (try clear hb); (try clear hb2); (try clear hk); (try clear hi)))
   go_ret
   exact ⟨rf_, bl_⟩
 ·replace c4 := Bool.eq_false_iff.mpr c4
  subst c4
  have H1 : (some false) = some r := by rw [if_neg (show ¬ (false = true) by decide)] at H; exact H
  clear H
  have H := H1
  clear H1
  obtain rfl := Option.some.inj H
  go_enter Try.func39, Try.ntmps39
  go_wp2_with (first | ((with_reducible refine gate_callee (f := 25) rfl ?_); refine goesL_ (some 6) rfl rfl Try.func25 (by kernel_rfl) rfl #[.slice A0 l0.length c0] rfl ag_ ?_; (with_reducible refine (impl_GoodMatchers.calls k _ _ l0 false _ ?side1 ?side2 A3.out).mono ?_); (case side1 => repeat (first | exact HR0.out | (with_reducible refine Kd.C_alloc ?_ _) | (with_reducible refine Kd.C_drewN ?_ _) | (with_reducible refine Kd.C_drew ?_))); (case side2 => exact HC0.out); rintro e w13 ⟨rfl, hb⟩; refine ⟨_, rfl, ?_⟩; have n0_ := am_ (below_step bl_ hb); clear HB; have HB := n0_; clear n0_; (try clear hb); (try clear hb2); (try clear hk); (try clear hi)))
  go_ret
  exact ⟨rf_, bl_⟩

/-! ### laws_FnExactFits: function 8 -/
def laws_FnExactFits.f (k : Nat) (l0 : List (S86)) (l1 : List (S103)) : Option (Bool) := (laws_szMatcherS.f k l0 1048576).bind fun t1001 => (if t1001 < 0 then (some true) else ((laws_szLabelS.f k l1 t1001).bind fun t1002 => (if t1002 < 0 then (some true) else ((laws_toMatcherS.f k l0).bind fun t1003 => ((laws_toLabelS.f k l1).bind fun t1006 => ((spec_Fits.f k t1003 t1006).bind fun t1009 => ((laws_toMatcherS.f k l0).bind fun t1010 => ((laws_toLabelS.f k l1).bind fun t1013 => ((impl_Fits.f k t1010 t1013).bind fun t1016 => (if (t1016 != t1009) = true then (none) else ((laws_toMatcherS.f k l0).bind fun t1017 => ((laws_eqMatcherS.f k t1010 t1017).bind fun t1020 => (if t1020 = true then ((laws_toLabelS.f k l1).bind fun t1021 => ((laws_eqLabelS.f k t1013 t1021).bind fun t1024 => (if t1024 = true then (some true) else (none)))) else (none))))))))))))))
theorem laws_FnExactFits.mono : ∀ a0 a1 k, LeO (laws_FnExactFits.f k a0 a1) (laws_FnExactFits.f (k + 1) a0 a1) := by
 intro a0 a1 k
 unfold laws_FnExactFits.f
 repeat' first
   | with_reducible first | exact impl_Fits.mono _ _ _ | exact laws_eqLabelS.mono _ _ _ | exact laws_eqMatcherS.mono _ _ _ | exact laws_szLabelS.mono _ _ _ | exact laws_szMatcherS.mono _ _ _ | exact laws_toLabelS.mono _ _ | exact laws_toMatcherS.mono _ _ | exact spec_Fits.mono _ _ _ | exact LeO.refl _ | exact LeO.none _ | refine LeO.ite ?_ ?_ | refine LeO.bind ?_ (fun _ => ?_)
   | exact impl_Fits.mono _ _ _
   | exact laws_eqLabelS.mono _ _ _
   | exact laws_eqMatcherS.mono _ _ _
   | exact laws_szLabelS.mono _ _ _
   | exact laws_szMatcherS.mono _ _ _
   | exact laws_toLabelS.mono _ _
   | exact laws_toMatcherS.mono _ _
   | exact spec_Fits.mono _ _ _
   | exact LeO.none _
   | refine LeO.ite ?_ ?_
   | refine LeO.bind ?_ (fun _ => ?_)
set_option maxHeartbeats 8000000 in
set_option maxRecDepth 100000 in
theorem laws_FnExactFits.calls (k : Nat) (A0 : Option Addr) (c0 : Nat) (l0 : List (S86)) (A1 : Option Addr) (c1 : Nat) (l1 : List (S103)) (r : Bool) (w : World) (hr0 : Kd.C k86 w A0 l0.length l0) (hc0 : l0.length ≤ c0) (hr1 : Kd.C k103 w A1 l1.length l1) (hc1 : l1.length ≤ c1) (h : laws_FnExactFits.f k l0 l1 = some r) :
  Calls Try.prog 8 #[.slice A0 l0.length c0, .slice A1 l1.length c1] w fun e w' => e = .returned (.bool r) ∧ Below w.heap.size w w' := by
 have HR0 := am_ hr0
 have HC0 := am_ hc0
 clear hr0 hc0
 have HR1 := am_ hr1
 have HC1 := am_ hc1
 clear hr1 hc1
 have HB := am_ (Below.refl w.heap.size w)
 have H : ((laws_szMatcherS.f k l0 1048576).bind fun t1001 => (if t1001 < 0 then (some true) else ((laws_szLabelS.f k l1 t1001).bind fun t1002 => (if t1002 < 0 then (some true) else ((laws_toMatcherS.f k l0).bind fun t1003 => ((laws_toLabelS.f k l1).bind fun t1006 => ((spec_Fits.f k t1003 t1006).bind fun t1009 => ((laws_toMatcherS.f k l0).bind fun t1010 => ((laws_toLabelS.f k l1).bind fun t1013 => ((impl_Fits.f k t1010 t1013).bind fun t1016 => (if (t1016 != t1009) = true then (none) else ((laws_toMatcherS.f k l0).bind fun t1017 => ((laws_eqMatcherS.f k t1010 t1017).bind fun t1020 => (if t1020 = true then ((laws_toLabelS.f k l1).bind fun t1021 => ((laws_eqLabelS.f k t1013 t1021).bind fun t1024 => (if t1024 = true then (some true) else (none)))) else (none))))))))))))))) = some r := h
 clear h
 replace H := Option.bind_eq_some_iff.mp H
 obtain ⟨t1001, A30, H⟩ := H
 replace H : (if t1001 < 0 then (some true) else ((laws_szLabelS.f k l1 t1001).bind fun t1002 => (if t1002 < 0 then (some true) else ((laws_toMatcherS.f k l0).bind fun t1003 => ((laws_toLabelS.f k l1).bind fun t1006 => ((spec_Fits.f k t1003 t1006).bind fun t1009 => ((laws_toMatcherS.f k l0).bind fun t1010 => ((laws_toLabelS.f k l1).bind fun t1013 => ((impl_Fits.f k t1010 t1013).bind fun t1016 => (if (t1016 != t1009) = true then (none) else ((laws_toMatcherS.f k l0).bind fun t1017 => ((laws_eqMatcherS.f k t1010 t1017).bind fun t1020 => (if t1020 = true then ((laws_toLabelS.f k l1).bind fun t1021 => ((laws_eqLabelS.f k t1013 t1021).bind fun t1024 => (if t1024 = true then (some true) else (none)))) else (none)))))))))))))) = some r := H
 have A3 := am_ A30
 clear A30
 by_cases c4 : t1001 < 0
 ·rw [if_pos c4] at H
  have c4b0 : decide (t1001 < 0) = true := decide_eq_true c4
  clear c4
  obtain rfl := Option.some.inj H
  go_enter Try.func8, Try.ntmps8
  go_wp2_with (first | ((with_reducible refine gate_callee (f := 22) rfl ?_); refine goesL_ (some 12) rfl rfl Try.func22 (by kernel_rfl) rfl #[.slice A0 l0.length c0, .int .i64 1048576] rfl ag_ ?_; (with_reducible refine (laws_szMatcherS.calls k _ _ l0 1048576 t1001 _ ?side1 ?side2 A3.out).mono ?_); (case side1 => repeat (first | exact HR0.out | (with_reducible refine Kd.C_alloc ?_ _) | (with_reducible refine Kd.C_drewN ?_ _) | (with_reducible refine Kd.C_drew ?_))); (case side2 => exact HC0.out); rintro e w5 ⟨rfl, hb⟩; refine ⟨_, rfl, ?_⟩; have n0_ := am_ (below_step bl_ hb); clear HB; have HB := n0_; clear n0_; (try clear hb); (try clear hb2); (try clear hk); (try clear hi)))
  go_ret
  exact ⟨rf_, bl_⟩
 ·rw [if_neg c4] at H
  have c4b0 : decide (t1001 < 0) = false := decide_eq_false c4
  clear c4
  replace H := Option.bind_eq_some_iff.mp H
  obtain ⟨t1002, A60, H⟩ := H
  replace H : (if t1002 < 0 then (some true) else ((laws_toMatcherS.f k l0).bind fun t1003 => ((laws_toLabelS.f k l1).bind fun t1006 => ((spec_Fits.f k t1003 t1006).bind fun t1009 => ((laws_toMatcherS.f k l0).bind fun t1010 => ((laws_toLabelS.f k l1).bind fun t1013 => ((impl_Fits.f k t1010 t1013).bind fun t1016 => (if (t1016 != t1009) = true then (none) else ((laws_toMatcherS.f k l0).bind fun t1017 => ((laws_eqMatcherS.f k t1010 t1017).bind fun t1020 => (if t1020 = true then ((laws_toLabelS.f k l1).bind fun t1021 => ((laws_eqLabelS.f k t1013 t1021).bind fun t1024 => (if t1024 = true then (some true) else (none)))) else (none)))))))))))) = some r := H
  have A6 := am_ A60
  clear A60
  by_cases c7 : t1002 < 0
  ·rw [if_pos c7] at H
   have c7b0 : decide (t1002 < 0) = true := decide_eq_true c7
   clear c7
   obtain rfl := Option.some.inj H
   go_enter Try.func8, Try.ntmps8
   go_wp2_with (first | ((with_reducible refine gate_callee (f := 22) rfl ?_); refine goesL_ (some 12) rfl rfl Try.func22 (by kernel_rfl) rfl #[.slice A0 l0.length c0, .int .i64 1048576] rfl ag_ ?_; (with_reducible refine (laws_szMatcherS.calls k _ _ l0 1048576 t1001 _ ?side1 ?side2 A3.out).mono ?_); (case side1 => repeat (first | exact HR0.out | (with_reducible refine Kd.C_alloc ?_ _) | (with_reducible refine Kd.C_drewN ?_ _) | (with_reducible refine Kd.C_drew ?_))); (case side2 => exact HC0.out); rintro e w8 ⟨rfl, hb⟩; refine ⟨_, rfl, ?_⟩; have n0_ := am_ (below_step bl_ hb); clear HB; have HB := n0_; clear n0_; (try clear hb); (try clear hb2); (try clear hk); (try clear hi)) | ((with_reducible refine gate_callee (f := 36) rfl ?_); refine goesL_ (some 17) rfl rfl Try.func36 (by kernel_rfl) rfl #[.slice A1 l1.length c1, .int .i64 t1001] rfl ag_ ?_; (with_reducible refine (laws_szLabelS.calls k _ _ l1 t1001 t1002 _ ?side1 ?side2 A6.out).mono ?_); (case side1 => exact cc_ (Kd.C_below HR1.out HB.out)); (case side2 => exact HC1.out); rintro e w9 ⟨rfl, hb⟩; refine ⟨_, rfl, ?_⟩; have n0_ := am_ (below_step bl_ hb); clear HB; have HB := n0_; clear n0_; (try clear hb); (try clear hb2); (try clear hk); (try clear hi)))
   go_ret
   exact ⟨rf_, bl_⟩
  ·rw [if_neg c7] at H
   have c7b0 : decide (t1002 < 0) = false := decide_eq_false c7
   clear c7
   replace H := Option.bind_eq_some_iff.mp H
   obtain ⟨t1003, A100, H⟩ := H
   replace H : ((laws_toLabelS.f k l1).bind fun t1006 => ((spec_Fits.f k t1003 t1006).bind fun t1009 => ((laws_toMatcherS.f k l0).bind fun t1010 => ((laws_toLabelS.f k l1).bind fun t1013 => ((impl_Fits.f k t1010 t1013).bind fun t1016 => (if (t1016 != t1009) = true then (none) else ((laws_toMatcherS.f k l0).bind fun t1017 => ((laws_eqMatcherS.f k t1010 t1017).bind fun t1020 => (if t1020 = true then ((laws_toLabelS.f k l1).bind fun t1021 => ((laws_eqLabelS.f k t1013 t1021).bind fun t1024 => (if t1024 = true then (some true) else (none)))) else (none)))))))))) = some r := H
   have A10 := am_ A100
   clear A100
   replace H := Option.bind_eq_some_iff.mp H
   obtain ⟨t1006, A110, H⟩ := H
   replace H : ((spec_Fits.f k t1003 t1006).bind fun t1009 => ((laws_toMatcherS.f k l0).bind fun t1010 => ((laws_toLabelS.f k l1).bind fun t1013 => ((impl_Fits.f k t1010 t1013).bind fun t1016 => (if (t1016 != t1009) = true then (none) else ((laws_toMatcherS.f k l0).bind fun t1017 => ((laws_eqMatcherS.f k t1010 t1017).bind fun t1020 => (if t1020 = true then ((laws_toLabelS.f k l1).bind fun t1021 => ((laws_eqLabelS.f k t1013 t1021).bind fun t1024 => (if t1024 = true then (some true) else (none)))) else (none))))))))) = some r := H
   have A11 := am_ A110
   clear A110
   replace H := Option.bind_eq_some_iff.mp H
   obtain ⟨t1009, A120, H⟩ := H
   replace H : ((laws_toMatcherS.f k l0).bind fun t1010 => ((laws_toLabelS.f k l1).bind fun t1013 => ((impl_Fits.f k t1010 t1013).bind fun t1016 => (if (t1016 != t1009) = true then (none) else ((laws_toMatcherS.f k l0).bind fun t1017 => ((laws_eqMatcherS.f k t1010 t1017).bind fun t1020 => (if t1020 = true then ((laws_toLabelS.f k l1).bind fun t1021 => ((laws_eqLabelS.f k t1013 t1021).bind fun t1024 => (if t1024 = true then (some true) else (none)))) else (none)))))))) = some r := H
   have A12 := am_ A120
   clear A120
   replace H := Option.bind_eq_some_iff.mp H
   obtain ⟨t1010, A130, H⟩ := H
   replace H : ((laws_toLabelS.f k l1).bind fun t1013 => ((impl_Fits.f k t1010 t1013).bind fun t1016 => (if (t1016 != t1009) = true then (none) else ((laws_toMatcherS.f k l0).bind fun t1017 => ((laws_eqMatcherS.f k t1010 t1017).bind fun t1020 => (if t1020 = true then ((laws_toLabelS.f k l1).bind fun t1021 => ((laws_eqLabelS.f k t1013 t1021).bind fun t1024 => (if t1024 = true then (some true) else (none)))) else (none))))))) = some r := H
   have A13 := am_ A130
   clear A130
   replace H := Option.bind_eq_some_iff.mp H
   obtain ⟨t1013, A140, H⟩ := H
   replace H : ((impl_Fits.f k t1010 t1013).bind fun t1016 => (if (t1016 != t1009) = true then (none) else ((laws_toMatcherS.f k l0).bind fun t1017 => ((laws_eqMatcherS.f k t1010 t1017).bind fun t1020 => (if t1020 = true then ((laws_toLabelS.f k l1).bind fun t1021 => ((laws_eqLabelS.f k t1013 t1021).bind fun t1024 => (if t1024 = true then (some true) else (none)))) else (none)))))) = some r := H
   have A14 := am_ A140
   clear A140
   replace H := Option.bind_eq_some_iff.mp H
   obtain ⟨t1016, A150, H⟩ := H
   replace H : (if (t1016 != t1009) = true then (none) else ((laws_toMatcherS.f k l0).bind fun t1017 => ((laws_eqMatcherS.f k t1010 t1017).bind fun t1020 => (if t1020 = true then ((laws_toLabelS.f k l1).bind fun t1021 => ((laws_eqLabelS.f k t1013 t1021).bind fun t1024 => (if t1024 = true then (some true) else (none)))) else (none))))) = some r := H
   have A15 := am_ A150
   clear A150
   by_cases c16 : (t1016 != t1009) = true
   ·rw [if_pos c16] at H
    exact absurd H (by simp)
   ·rw [if_neg c16] at H
    have c16b0 : (t1016 != t1009) = false := by simpa using c16
    (try (have c16b1 : decide (t1016 = t1009) = true := by simpa using c16))
    (try (have c16b2 : (t1016 == t1009) = true := by simpa using c16))
    clear c16
    replace H := Option.bind_eq_some_iff.mp H
    obtain ⟨t1017, A170, H⟩ := H
    replace H : ((laws_eqMatcherS.f k t1010 t1017).bind fun t1020 => (if t1020 = true then ((laws_toLabelS.f k l1).bind fun t1021 => ((laws_eqLabelS.f k t1013 t1021).bind fun t1024 => (if t1024 = true then (some true) else (none)))) else (none))) = some r := H
    have A17 := am_ A170
    clear A170
    replace H := Option.bind_eq_some_iff.mp H
    obtain ⟨t1020, A180, H⟩ := H
    replace H : (if t1020 = true then ((laws_toLabelS.f k l1).bind fun t1021 => ((laws_eqLabelS.f k t1013 t1021).bind fun t1024 => (if t1024 = true then (some true) else (none)))) else (none)) = some r := H
    have A18 := am_ A180
    clear A180
    by_cases c19 : t1020 = true
    ·subst c19
     have H1 : ((laws_toLabelS.f k l1).bind fun t1021 => ((laws_eqLabelS.f k t1013 t1021).bind fun t1024 => (if t1024 = true then (some true) else (none)))) = some r := by rw [if_pos rfl] at H; exact H
     clear H
     have H := H1
     clear H1
     replace H := Option.bind_eq_some_iff.mp H
     obtain ⟨t1021, A200, H⟩ := H
     replace H : ((laws_eqLabelS.f k t1013 t1021).bind fun t1024 => (if t1024 = true then (some true) else (none))) = some r := H
     have A20 := am_ A200
     clear A200
     replace H := Option.bind_eq_some_iff.mp H
     obtain ⟨t1024, A210, H⟩ := H
     replace H : (if t1024 = true then (some true) else (none)) = some r := H
     have A21 := am_ A210
     clear A210
     by_cases c22 : t1024 = true
     ·subst c22
      have H1 : (some true) = some r := by rw [if_pos rfl] at H; exact H
      clear H
      have H := H1
      clear H1
      obtain rfl := Option.some.inj H
      go_enter Try.func8, Try.ntmps8
      go_wp2_with (first | ((with_reducible refine gate_callee (f := 22) rfl ?_); refine goesL_ (some 12) rfl rfl Try.func22 (by kernel_rfl) rfl #[.slice A0 l0.length c0, .int .i64 1048576] rfl ag_ ?_; (with_reducible refine (laws_szMatcherS.calls k _ _ l0 1048576 t1001 _ ?side1 ?side2 A3.out).mono ?_); (case side1 => repeat (first | exact HR0.out | (with_reducible refine Kd.C_alloc ?_ _) | (with_reducible refine Kd.C_drewN ?_ _) | (with_reducible refine Kd.C_drew ?_))); (case side2 => exact HC0.out); rintro e w23 ⟨rfl, hb⟩; refine ⟨_, rfl, ?_⟩; have n0_ := am_ (below_step bl_ hb); clear HB; have HB := n0_; clear n0_; (try clear hb); (try clear hb2); (try clear hk); (try clear hi)) | ((with_reducible refine gate_callee (f := 36) rfl ?_); refine goesL_ (some 17) rfl rfl Try.func36 (by kernel_rfl) rfl #[.slice A1 l1.length c1, .int .i64 t1001] rfl ag_ ?_; (with_reducible refine (laws_szLabelS.calls k _ _ l1 t1001 t1002 _ ?side1 ?side2 A6.out).mono ?_); (case side1 => exact cc_ (Kd.C_below HR1.out HB.out)); (case side2 => exact HC1.out); rintro e w24 ⟨rfl, hb⟩; refine ⟨_, rfl, ?_⟩; have n0_ := am_ (below_step bl_ hb); clear HB; have HB := n0_; clear n0_; (try clear hb); (try clear hb2); (try clear hk); (try clear hi)) | ((with_reducible refine gate_callee (f := 24) rfl ?_); refine goesL_ (some 21) rfl rfl Try.func24 (by kernel_rfl) rfl #[.slice A0 l0.length c0] rfl ag_ ?_; (with_reducible refine (laws_toMatcherS.calls k _ _ l0 t1003 _ ?side1 ?side2 A10.out).mono ?_); (case side1 => exact cc_ (Kd.C_below HR0.out HB.out)); (case side2 => exact HC0.out); rintro e w25 ⟨v1004, rfl, ho0, hb⟩; refine ⟨_, rfl, ?_⟩; have n0_ := am_ (Kd.R_lower ho0 (below_size bl_)); have n1_ := am_ (below_step bl_ hb); clear HB; have HO1005 := n0_; have HB := n1_; clear n0_ n1_; (try clear hb); (try clear hb2); (try clear hk); (try clear hi); (try clear ho0)) | ((with_reducible refine gate_callee (f := 38) rfl ?_); refine goesL_ (some 23) rfl rfl Try.func38 (by kernel_rfl) rfl #[.slice A1 l1.length c1] rfl ag_ ?_; (with_reducible refine (laws_toLabelS.calls k _ _ l1 t1006 _ ?side1 ?side2 A11.out).mono ?_); (case side1 => exact cc_ (Kd.C_below HR1.out HB.out)); (case side2 => exact HC1.out); rintro e w26 ⟨v1007, rfl, ho0, hb⟩; refine ⟨_, rfl, ?_⟩; have n0_ := am_ (Kd.R_below (ro_ HO1005) hb); have n1_ := am_ (Kd.R_lower ho0 (below_size bl_)); have n2_ := am_ (below_step bl_ hb); clear HO1005; clear HB; have HO1005 := n0_; have HO1008 := n1_; have HB := n2_; clear n0_ n1_ n2_; (try clear hb); (try clear hb2); (try clear hk); (try clear hi); (try clear ho0); obtain ⟨Ao27, co27, eo27⟩ := Kd.R_slice HO1005.out; subst eo27; obtain ⟨Ao28, co28, eo28⟩ := Kd.R_slice HO1008.out; subst eo28) | ((with_reducible refine gate_callee (f := 37) rfl ?_); refine goesL_ (some 24) rfl rfl Try.func37 (by kernel_rfl) rfl #[.slice Ao27 t1003.length co27, .slice Ao28 t1006.length co28] rfl ag_ ?_; (with_reducible refine (spec_Fits.calls k _ _ t1003 _ _ t1006 t1009 _ ?side1 ?side2 ?side3 ?side4 A12.out).mono ?_); (case side1 => exact cc_ (Kd.R_reads' HO1005.out).2.2); (case side2 => exact (Kd.R_reads' HO1005.out).2.1); (case side3 => exact cc_ (Kd.R_reads' HO1008.out).2.2); (case side4 => exact (Kd.R_reads' HO1008.out).2.1); rintro e w29 ⟨rfl, hb⟩; refine ⟨_, rfl, ?_⟩; have n0_ := am_ (Kd.R_below (ro_ HO1005) hb); have n1_ := am_ (Kd.R_below (ro_ HO1008) hb); have n2_ := am_ (below_step bl_ hb); clear HO1005; clear HO1008; clear HB; have HO1005 := n0_; have HO1008 := n1_; have HB := n2_; clear n0_ n1_ n2_; (try clear hb); (try clear hb2); (try clear hk); (try clear hi)) | ((with_reducible refine gate_callee (f := 24) rfl ?_); refine goesL_ (some 26) rfl rfl Try.func24 (by kernel_rfl) rfl #[.slice A0 l0.length c0] rfl ag_ ?_; (with_reducible refine (laws_toMatcherS.calls k _ _ l0 t1010 _ ?side1 ?side2 A13.out).mono ?_); (case side1 => exact cc_ (Kd.C_below HR0.out HB.out)); (case side2 => exact HC0.out); rintro e w30 ⟨v1011, rfl, ho0, hb⟩; refine ⟨_, rfl, ?_⟩; have n0_ := am_ (Kd.R_elder' (ro_ HO1005) (Kd.R_base ho0) hb); have n1_ := am_ (Kd.R_below (ro_ HO1008) hb); have n2_ := am_ (Kd.R_lower (Kd.R_new' ho0 (Kd.R_lt (ro_ HO1005))) (below_size bl_)); have n3_ := am_ (below_step bl_ hb); clear HO1005; clear HO1008; clear HB; have HO1005 := n0_; have HO1008 := n1_; have HO1012 := n2_; have HB := n3_; clear n0_ n1_ n2_ n3_; (try clear hb); (try clear hb2); (try clear hk); (try clear hi); (try clear ho0)) | ((with_reducible refine gate_callee (f := 38) rfl ?_); refine goesL_ (some 28) rfl rfl Try.func38 (by kernel_rfl) rfl #[.slice A1 l1.length c1] rfl ag_ ?_; (with_reducible refine (laws_toLabelS.calls k _ _ l1 t1013 _ ?side1 ?side2 A14.out).mono ?_); (case side1 => exact cc_ (Kd.C_below HR1.out HB.out)); (case side2 => exact HC1.out); rintro e w31 ⟨v1014, rfl, ho0, hb⟩; refine ⟨_, rfl, ?_⟩; have n0_ := am_ (Kd.R_below (ro_ HO1005) hb); have n1_ := am_ (Kd.R_elder' (ro_ HO1008) (Kd.R_base ho0) hb); have n2_ := am_ (Kd.R_below (ro_ HO1012) hb); have n3_ := am_ (Kd.R_lower (Kd.R_new' ho0 (Kd.R_lt (ro_ HO1008))) (below_size bl_)); have n4_ := am_ (below_step bl_ hb); clear HO1005; clear HO1008; clear HO1012; clear HB; have HO1005 := n0_; have HO1008 := n1_; have HO1012 := n2_; have HO1015 := n3_; have HB := n4_; clear n0_ n1_ n2_ n3_ n4_; (try clear hb); (try clear hb2); (try clear hk); (try clear hi); (try clear ho0); obtain ⟨Ao32, co32, eo32⟩ := Kd.R_slice HO1012.out; subst eo32; obtain ⟨Ao33, co33, eo33⟩ := Kd.R_slice HO1015.out; subst eo33) | ((with_reducible refine gate_callee (f := 39) rfl ?_); refine goesL_ (some 31) rfl rfl Try.func39 (by kernel_rfl) rfl #[.slice Ao32 t1010.length co32, .slice Ao33 t1013.length co33] rfl ag_ ?_; (with_reducible refine (impl_Fits.calls k _ _ t1010 _ _ t1013 t1016 _ ?side1 ?side2 ?side3 ?side4 A15.out).mono ?_); (case side1 => exact cc_ (Kd.R_reads' HO1012.out).2.2); (case side2 => exact (Kd.R_reads' HO1012.out).2.1); (case side3 => exact cc_ (Kd.R_reads' HO1015.out).2.2); (case side4 => exact (Kd.R_reads' HO1015.out).2.1); rintro e w34 ⟨rfl, hb⟩; refine ⟨_, rfl, ?_⟩; have n0_ := am_ (Kd.R_below (ro_ HO1005) hb); have n1_ := am_ (Kd.R_below (ro_ HO1008) hb); have n2_ := am_ (Kd.R_below (ro_ HO1012) hb); have n3_ := am_ (Kd.R_below (ro_ HO1015) hb); have n4_ := am_ (below_step bl_ hb); clear HO1005; clear HO1008; clear HO1012; clear HO1015; clear HB; have HO1005 := n0_; have HO1008 := n1_; have HO1012 := n2_; have HO1015 := n3_; have HB := n4_; clear n0_ n1_ n2_ n3_ n4_; (try clear hb); (try clear hb2); (try clear hk); (try clear hi)) | ((with_reducible refine gate_callee (f := 24) rfl ?_); refine goesL_ (some 37) rfl rfl Try.func24 (by kernel_rfl) rfl #[.slice A0 l0.length c0] rfl ag_ ?_; (with_reducible refine (laws_toMatcherS.calls k _ _ l0 t1017 _ ?side1 ?side2 A17.out).mono ?_); (case side1 => exact cc_ (Kd.C_below HR0.out HB.out)); (case side2 => exact HC0.out); rintro e w35 ⟨v1018, rfl, ho0, hb⟩; refine ⟨_, rfl, ?_⟩; have n0_ := am_ (Kd.R_elder' (ro_ HO1005) (Kd.R_base ho0) hb); have n1_ := am_ (Kd.R_below (ro_ HO1008) hb); have n2_ := am_ (Kd.R_elder' (ro_ HO1012) (Kd.R_base ho0) hb); have n3_ := am_ (Kd.R_below (ro_ HO1015) hb); have n4_ := am_ (Kd.R_lower (Kd.R_new' (Kd.R_new' ho0 (Kd.R_lt (ro_ HO1005))) (Kd.R_lt (ro_ HO1012))) (below_size bl_)); have n5_ := am_ (below_step bl_ hb); clear HO1005; clear HO1008; clear HO1012; clear HO1015; clear HB; have HO1005 := n0_; have HO1008 := n1_; have HO1012 := n2_; have HO1015 := n3_; have HO1019 := n4_; have HB := n5_; clear n0_ n1_ n2_ n3_ n4_ n5_; (try clear hb); (try clear hb2); (try clear hk); (try clear hi); (try clear ho0); obtain ⟨Ao36, co36, eo36⟩ := Kd.R_slice HO1019.out; subst eo36) | ((with_reducible refine gate_callee (f := 26) rfl ?_); refine goesL_ (some 38) rfl rfl Try.func26 (by kernel_rfl) rfl #[.slice Ao32 t1010.length co32, .slice Ao36 t1017.length co36] rfl ag_ ?_; (with_reducible refine (laws_eqMatcherS.calls k _ _ t1010 _ _ t1017 true _ ?side1 ?side2 ?side3 ?side4 A18.out).mono ?_); (case side1 => exact cc_ (Kd.R_reads' HO1012.out).2.2); (case side2 => exact (Kd.R_reads' HO1012.out).2.1); (case side3 => exact cc_ (Kd.R_reads' HO1019.out).2.2); (case side4 => exact (Kd.R_reads' HO1019.out).2.1); rintro e w37 ⟨rfl, hb⟩; refine ⟨_, rfl, ?_⟩; have n0_ := am_ (Kd.R_below (ro_ HO1005) hb); have n1_ := am_ (Kd.R_below (ro_ HO1008) hb); have n2_ := am_ (Kd.R_below (ro_ HO1012) hb); have n3_ := am_ (Kd.R_below (ro_ HO1015) hb); have n4_ := am_ (Kd.R_below (ro_ HO1019) hb); have n5_ := am_ (below_step bl_ hb); clear HO1005; clear HO1008; clear HO1012; clear HO1015; clear HO1019; clear HB; have HO1005 := n0_; have HO1008 := n1_; have HO1012 := n2_; have HO1015 := n3_; have HO1019 := n4_; have HB := n5_; clear n0_ n1_ n2_ n3_ n4_ n5_; (try clear hb); (try clear hb2); (try clear hk); (try clear hi)) | ((with_reducible refine gate_callee (f := 38) rfl ?_); refine goesL_ (some 42) rfl rfl Try.func38 (by kernel_rfl) rfl #[.slice A1 l1.length c1] rfl ag_ ?_; (with_reducible refine (laws_toLabelS.calls k _ _ l1 t1021 _ ?side1 ?side2 A20.out).mono ?_); (case side1 => exact cc_ (Kd.C_below HR1.out HB.out)); (case side2 => exact HC1.out); rintro e w38 ⟨v1022, rfl, ho0, hb⟩; refine ⟨_, rfl, ?_⟩; have n0_ := am_ (Kd.R_below (ro_ HO1005) hb); have n1_ := am_ (Kd.R_elder' (ro_ HO1008) (Kd.R_base ho0) hb); have n2_ := am_ (Kd.R_below (ro_ HO1012) hb); have n3_ := am_ (Kd.R_elder' (ro_ HO1015) (Kd.R_base ho0) hb); have n4_ := am_ (Kd.R_below (ro_ HO1019) hb); have n5_ := am_ (Kd.R_lower (Kd.R_new' (Kd.R_new' ho0 (Kd.R_lt (ro_ HO1008))) (Kd.R_lt (ro_ HO1015))) (below_size bl_)); have n6_ := am_ (below_step bl_ hb); clear HO1005; clear HO1008; clear HO1012; clear HO1015; clear HO1019; clear HB; have HO1005 := n0_; have HO1008 := n1_; have HO1012 := n2_; have HO1015 := n3_; have HO1019 := n4_; have HO1023 := n5_; have HB := n6_; clear n0_ n1_ n2_ n3_ n4_ n5_ n6_; (try clear hb); (try clear hb2); (try clear hk); (try clear hi); (try clear ho0); obtain ⟨Ao39, co39, eo39⟩ := Kd.R_slice HO1023.out; subst eo39) | ((with_reducible refine gate_callee (f := 40) rfl ?_); refine goesL_ (some 43) rfl rfl Try.func40 (by kernel_rfl) rfl #[.slice Ao33 t1013.length co33, .slice Ao39 t1021.length co39] rfl ag_ ?_; (with_reducible refine (laws_eqLabelS.calls k _ _ t1013 _ _ t1021 true _ ?side1 ?side2 ?side3 ?side4 A21.out).mono ?_); (case side1 => exact cc_ (Kd.R_reads' HO1015.out).2.2); (case side2 => exact (Kd.R_reads' HO1015.out).2.1); (case side3 => exact cc_ (Kd.R_reads' HO1023.out).2.2); (case side4 => exact (Kd.R_reads' HO1023.out).2.1); rintro e w40 ⟨rfl, hb⟩; refine ⟨_, rfl, ?_⟩; have n0_ := am_ (Kd.R_below (ro_ HO1005) hb); have n1_ := am_ (Kd.R_below (ro_ HO1008) hb); have n2_ := am_ (Kd.R_below (ro_ HO1012) hb); have n3_ := am_ (Kd.R_below (ro_ HO1015) hb); have n4_ := am_ (Kd.R_below (ro_ HO1019) hb); have n5_ := am_ (Kd.R_below (ro_ HO1023) hb); have n6_ := am_ (below_step bl_ hb); clear HO1005; clear HO1008; clear HO1012; clear HO1015; clear HO1019; clear HO1023; clear HB; have HO1005 := n0_; have HO1008 := n1_; have HO1012 := n2_; have HO1015 := n3_; have HO1019 := n4_; have HO1023 := n5_; have HB := n6_; clear n0_ n1_ n2_ n3_ n4_ n5_ n6_; (try clear hb); (try clear hb2); (try clear hk); (try clear hi)))
      go_ret
      exact ⟨rf_, bl_⟩
     ·replace c22 := Bool.eq_false_iff.mpr c22
      subst c22
      have H1 : (none) = some r := by rw [if_neg (show ¬ (false = true) by decide)] at H; exact H
      clear H
      have H := H1
      clear H1
      exact absurd H (by simp)
    ·replace c19 := Bool.eq_false_iff.mpr c19
     subst c19
     have H1 : (none) = some r := by rw [if_neg (show ¬ (false = true) by decide)] at H; exact H
     clear H
     have H := H1
     clear H1
     exact absurd H (by simp)

end Go.Proofs.Ytnnlgbpfdnaalaa.Pr
