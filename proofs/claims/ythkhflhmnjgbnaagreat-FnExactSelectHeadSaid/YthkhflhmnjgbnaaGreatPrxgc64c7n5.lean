/- Functions of the given program as plain Lean functions, and that the machine's calls come to them; written by a program of this session; no condition but those that each theorem states. -/
import Derived.Test.YthkhflhmnjgbnaaGreatShelf
import Derived.Test.YthkhflhmnjgbnaaGreatWRepsOne
import Derived.Test.YthkhflhmnjgbnaaGreatWFour
import Derived.Test.YthkhflhmnjgbnaaGreatPrx0
import Derived.Test.YthkhflhmnjgbnaaGreatPrxgc64c7n2
import Derived.Test.YthkhflhmnjgbnaaGreatPrxgc64c7n4
namespace Go.Proofs.YthkhflhmnjgbnaaGreat.Pr
open Go.RowKit Go.Proofs.YthkhflhmnjgbnaaGreatW.PrintWords Go.Proofs.YthkhflhmnjgbnaaGreatW.PrintLast Go.Proofs.YthkhflhmnjgbnaaGreatW.PrintMore
attribute [local go_sem] max2_int min2_int max_two min_two max_three min_three max_four min_four   -- for this text's walks alone
set_option linter.unusedVariables false
set_option linter.unusedSimpArgs false

/-! ### impl_GoodSeries: function 45 -/
def impl_GoodSeries.l0 : Nat → List (S56) → List (S56) → Int → Int → Option (Bool)
 | 0, _, _, _, _ => none
 | k + 1, x0, x8, x9, x10 => if x10 < x9 then (if 0 ≤ x10 then (if x10 < (x8.length : Int) then ((impl_GoodLabels.f k ((rd_T56 x8 x10).f0)).bind fun t1003 => (if t1003 = true then ((impl_valueOf.f k ((rd_T56 x8 x10).f0) (⟨#[95, 110, 97, 109, 101]⟩ : ByteArray)).bind fun t1004 => (if t1004.toList = ([] : List UInt8) then (some false) else (if (((rd_T56 x8 x10).f1).length : Int) = 0 then (some false) else ((impl_GoodSamples.f k ((rd_T56 x8 x10).f1)).bind fun t1005 => (if t1005 = true then (if x10 > 0 then (if 0 ≤ (wrap64 (x10 - 1)) then (if (wrap64 (x10 - 1)) < (x0.length : Int) then ((impl_compare.f k ((rd_T56 x0 (wrap64 (x10 - 1))).f0) ((rd_T56 x8 x10).f0)).bind fun t1007 => (if t1007 ≥ 0 then (some false) else (impl_GoodSeries.l0 k x0 x8 x9 (wrap64 (x10 + 1))))) else (none)) else (none)) else (impl_GoodSeries.l0 k x0 x8 x9 (wrap64 (x10 + 1)))) else (some false)))))) else (some false))) else (none)) else (none)) else (some true)
def impl_GoodSeries.f (k : Nat) (l0 : List (S56)) : Option (Bool) := if (l0.length : Int) > 200 then (some false) else (impl_GoodSeries.l0 k l0 l0 (l0.length : Int) 0)
theorem impl_GoodSeries.mono_l : ∀ k, (∀ y0 y1 y2 y3, LeO (impl_GoodSeries.l0 k y0 y1 y2 y3) (impl_GoodSeries.l0 (k + 1) y0 y1 y2 y3))
 | 0 => fun _ _ _ _ r h => by simp [impl_GoodSeries.l0] at h
 | k + 1 => by
  have ih0 := impl_GoodSeries.mono_l k
  ·intro y0 y1 y2 y3
   unfold impl_GoodSeries.l0
   repeat' with_reducible first | apply ih0 | apply impl_GoodLabels.mono | apply impl_GoodSamples.mono | apply impl_compare.mono | apply impl_valueOf.mono | apply LeO.refl | apply LeO.none | apply LeO.ite | refine LeO.bind ?_ (fun _ => ?_)
theorem impl_GoodSeries.mono : ∀ a0 k, LeO (impl_GoodSeries.f k a0) (impl_GoodSeries.f (k + 1) a0) := by
 intro a0 k
 have ih0 := impl_GoodSeries.mono_l k
 unfold impl_GoodSeries.f
 repeat' with_reducible first | apply ih0 | apply impl_GoodLabels.mono | apply impl_GoodSamples.mono | apply impl_compare.mono | apply impl_valueOf.mono | apply LeO.refl | apply LeO.none | apply LeO.ite | refine LeO.bind ?_ (fun _ => ?_)
def impl_GoodSeries.T6 : Bool × List (List Nat × List Nat) := (true, [([], []), ([0], [0]), ([1], [1]), ([2], [2]), ([3, 2], [3]), ([4], [4]), ([5, 4], [4, 5]), ([6, 4, 4], [4, 6]), ([7, 4], [4, 7]), ([4, 8], [4, 8]), ([9, 7], [9]), ([10], [10]), ([11, 10], [10, 11]), ([12, 10], [10, 12]), ([13, 10], [10, 13]), ([10, 14], [10, 14]), ([15, 10], [15]), ([16], [16]), ([17, 16], [16, 17]), ([18, 16, 16], [16, 18]), ([19, 16], [16, 19]), ([16, 20], [16, 20]), ([21, 19], [21]), ([22], [22]), ([23, 22], [22, 23]), ([24, 22, 22], [22, 24]), ([25], [25]), ([25], [25]), ([27, 25], [25, 27]), ([26, 28, 25], [25, 26, 28]), ([29, 25], [25, 29]), ([30, 25], [25, 30]), ([25], [25]), ([32, 25], [25, 32]), ([31, 33, 25, 25], [25, 31, 33]), ([34, 25], [25, 34]), ([25, 35, 22], [22, 25, 35]), ([22, 36], [22, 36])])
def impl_GoodSeries.B6 : List Nat := [0, 1, 3, 7, 15, 31, 63, 127, 255, 511, 1023, 2047, 4095, 8191, 16383, 32767, 65535, 131071, 262143, 524287, 1048575, 2097151, 4194303, 8388607, 16777215, 33554431, 67108863, 67108863, 201326591, 536870911, 1073741823, 2147483647, 67108863, 4362076159, 17179869183, 34359738367, 68719476735, 137438953471]
theorem impl_GoodSeries.tab6 : rtab .any (opsOf Tryz.f45 6) = impl_GoodSeries.T6 := by kernel_rfl
theorem impl_GoodSeries.bits6 : waitsOk impl_GoodSeries.T6.2 impl_GoodSeries.B6 = true := by kernel_rfl
set_option maxHeartbeats 8000000 in
set_option maxRecDepth 100000 in
theorem impl_GoodSeries.calls (k : Nat) (A0 : Option Addr) (c0 : Nat) (l0 : List (S56)) (r : Bool) (w : World) (hr0 : Kd.C k56 w A0 l0.length l0) (hc0 : l0.length ≤ c0) (h : impl_GoodSeries.f k l0 = some r) :
  Calls Tryz.prog 45 #[.slice A0 l0.length c0] w fun e w' => e = .returned (.bool r) ∧ Below w.heap.size w w' := by
 have hu56 := Tryz.underlying56; have HR0 := am_ hr0; have HC0 := am_ hc0; clear hr0 hc0; have HB := am_ (Below.refl w.heap.size w); have H := h; clear h; unfold impl_GoodSeries.f at H
 by_cases c2 : (l0.length : Int) > 200
 ·rw [if_pos c2] at H; have c2b0 := dg_ c2; have c2b1 : decide (200 < l0.length) = true := decide_eq_true (by omega); clear c2; obtain rfl := si_ H; go_enter Tryz.func45, Tryz.ntmps45; go_wp2; go_ret; exact ⟨rf_, bl_⟩
 ·rw [if_neg c2] at H; have c2b0 := df_ c2; have c2b1 : decide (200 < l0.length) = false := decide_eq_false (by omega); clear c2; have H' := am_ H; clear H; go_enter Tryz.func45, Tryz.ntmps45; go_wp2
  go_loopg [10] k (fun kq v10 w' => ∃ (x10_1 : Int), v10 = .int .i64 x10_1 ∧ Aside0 (impl_GoodSeries.l0 kq l0 l0 (l0.length : Int) x10_1 = some r) ∧ Aside0 (kq ≤ k) ∧ Aside0 (Below w.heap.size w w'))
  case atStart => exact ⟨(0), rs_, H', ⟨Nat.le_refl _⟩, ⟨bl_⟩⟩
  case round =>
   clear H'; (try clear c2); (try clear c2b0); (try clear c2b1); obtain ⟨x10_1, rfl, HA, HK1, HB⟩ := hrel
   cases gk with
   | zero => exact absurd HA.out (by simp [impl_GoodSeries.l0])
   | succ k1 =>
    have H := HA.out; clear HA; simp only [impl_GoodSeries.l0] at H
    by_cases c3 : x10_1 < (l0.length : Int)
    ·rw [if_pos c3] at H; have c3b0 := decide_eq_true c3; clear c3; obtain ⟨c4, H⟩ := is_ H; have c4b0 := decide_eq_true c4; clear c4; obtain ⟨c5, H⟩ := is_ H; have c5b0 := decide_eq_true c5; clear c5; obtain ⟨t1003, A6, H⟩ := bs_ H
     by_cases c7 : t1003 = true
     ·subst c7; replace H := it_ H; obtain ⟨t1004, A8, H⟩ := bs_ H
      by_cases c9 : t1004.toList = ([] : List UInt8)
      ·rw [if_pos c9] at H; have c9b0 := eb_ c9; have c9b1 := en_ c9; clear c9; obtain rfl := si_ H; have p1001 : 0 ≤ (x10_1 : Int) := od_; have q1001 : x10_1 < (l0.length : Int) := od_; obtain ⟨ad1001, A1001_0, c1001_0, A1001_1, c1001_1, e1001, hx1001_0, hx1001_1, hl1001_0, hi1001_0, hl1001_1, hi1001_1⟩ := at_T56 HR0.out x10_1 p1001 q1001
       cases e1001
       replace hx1001_0 := kp_ HB hx1001_0; replace hx1001_1 := kp_ HB hx1001_1; have HR1001_0 := am_ hi1001_0; have HC1001_0 := am_ hl1001_0; clear hi1001_0 hl1001_0; have HR1001_1 := am_ hi1001_1; have HC1001_1 := am_ hl1001_1; clear hi1001_1 hl1001_1; replace p1001 := eq_true p1001; replace q1001 := eq_true q1001; (try go_wp2_with (first | ((with_reducible refine gate_dst (N := 4) rfl ?_); (try (refine gate_guard (by rfl) ?_; dsimp only)); refine bx_ 4 #[.slice none 0 0, .slice none 0 0] 56 ?_; intro gb1002 hg w10 hbox hb; have BK1002 := am_ (hbox); have GW1002 := am_ (gs_ hg : w.heap.size ≤ gb1002); replace HB := am_ (below_step bl_ hb); have GE1002 := GW1002; clear hb hbox hg; have hz11 := bk2_ BK1002))); have n0_ : Aside0 (((w10.setCell ⟨gb1002, 0, none⟩ (.slice A1001_0 ((rd_T56 l0 x10_1).f0).length c1001_0)).setCell ⟨gb1002, 1, none⟩ (.slice A1001_1 ((rd_T56 l0 x10_1).f1).length c1001_1)).heap[gb1002]? = some (.cells #[.slice A1001_0 ((rd_T56 l0 x10_1).f0).length c1001_0, .slice A1001_1 ((rd_T56 l0 x10_1).f1).length c1001_1] 56 (0, 0))) := ⟨by (with_reducible repeat (first | refine blk_drewN ?_ _ | refine blk_drew ?_ | refine blk_alloc ?_ _)); refine blk_put (cs := #[.slice A1001_0 ((rd_T56 l0 x10_1).f0).length c1001_0, .slice none 0 0]) ?_ 1 _ rfl; (with_reducible repeat (first | refine blk_drewN ?_ _ | refine blk_drew ?_ | refine blk_alloc ?_ _)); refine blk_put (cs := #[.slice none 0 0, .slice none 0 0]) ?_ 0 _ rfl; (with_reducible repeat (first | refine blk_drewN ?_ _ | refine blk_drew ?_ | refine blk_alloc ?_ _)); exact BK1002.out⟩; have n1_ : Aside0 (Below w.heap.size w ((w10.setCell ⟨gb1002, 0, none⟩ (.slice A1001_0 ((rd_T56 l0 x10_1).f0).length c1001_0)).setCell ⟨gb1002, 1, none⟩ (.slice A1001_1 ((rd_T56 l0 x10_1).f1).length c1001_1))) := ⟨bg_⟩; (try clear BK1002); (try clear HB); generalize ((w10.setCell ⟨gb1002, 0, none⟩ (.slice A1001_0 ((rd_T56 l0 x10_1).f0).length c1001_0)).setCell ⟨gb1002, 1, none⟩ (.slice A1001_1 ((rd_T56 l0 x10_1).f1).length c1001_1)) = w12 at n0_ n1_ ⊢; have BK1002 := n0_; have HB := n1_; clear n0_ n1_; have n0_ := am_ (blk_drew BK1002.out); have n1_ := am_ (below_drew1 HB.out); clear BK1002; clear HB; have BK1002 := n0_; have HB := n1_; clear n0_ n1_; refine start_ (n := 38) (S := fun w' => w'.cell? ⟨gb1002, 0, none⟩ = some (.slice A1001_0 ((rd_T56 l0 x10_1).f0).length c1001_0) ∧ w'.cell? ⟨gb1002, 1, none⟩ = some (.slice A1001_1 ((rd_T56 l0 x10_1).f1).length c1001_1)) (ds := []) (bz 38 0) (by kernel_rfl) rfl rfl ⟨(blk_cell BK1002.out 0).trans rfl, (blk_cell BK1002.out 1).trans rfl⟩ (fun hHeld => ?_); refine with_tabW impl_GoodSeries.tab6 impl_GoodSeries.bits6 (fun HT_ HW_ => ?_); generalize w12.drew = w13 at BK1002 HB hHeld ⊢; refine pz_ 0 15 1 ?_; refine tz_ 1 16 3 ?_; refine one_ (i := 2) (N := some 17) (bz 38 7) rfl rfl (one_of HT_.out (by kernel_rfl)) (by decide) (fun K hK => ?_); refine goes_ Tryz.func67 (by kernel_rfl) rfl #[.slice A1001_0 ((rd_T56 l0 x10_1).f0).length c1001_0] (by rfl) rfl rfl ag_ ?_; (with_reducible refine (impl_GoodLabels.calls k1 _ _ ((rd_T56 l0 x10_1).f0) true _ ?side1 ?side2 A6.out).mono ?_); (case side1 => exact cc_ (Kd.C_below HR1001_0.out HB.out)); (case side2 => exact HC1001_0.out); rintro e w14 ⟨rfl, hb⟩; refine ⟨_, rfl, ?_⟩; have n0_ := am_ (blk_below (g := gb1002) (vk_ BK1002) hb); have n1_ := am_ (below_step bg_ hb); clear BK1002; clear HB; have BK1002 := n0_; have HB := n1_; clear n0_ n1_; (try clear hb); (try clear hb2); (try clear hk); (try clear hi); refine hK.out _ _ ⟨(blk_cell BK1002.out 0).trans rfl, (blk_cell BK1002.out 1).trans rfl⟩ (fun hHeld => ?_); clear hK K; refine norm_ (a' := ?_) ?_ ?_; rotate_left
       ·show Act.put _ (some 17) _ = _; simp only [Act.put, List.setIfInBounds_toArray, List.set_cons_zero, List.set_cons_succ, i64_w, i32_w]; rfl
       refine pz_ 3 18 15 ?_; refine pz_ 4 19 31 ?_; refine pz_ 5 20 63 ?_; refine tz_ 6 21 127 ?_; refine one_ (i := 7) (N := some 22) (bz 38 255) rfl rfl (one_of HT_.out (by kernel_rfl)) (by decide) (fun K hK => ?_); refine goes_ Tryz.func68 (by kernel_rfl) rfl #[.slice A1001_0 ((rd_T56 l0 x10_1).f0).length c1001_0, .string (⟨#[95, 110, 97, 109, 101]⟩ : ByteArray)] (by rfl) rfl rfl ag_ ?_; (with_reducible refine (impl_valueOf.calls k1 _ _ ((rd_T56 l0 x10_1).f0) (⟨#[95, 110, 97, 109, 101]⟩ : ByteArray) t1004 _ ?side1 ?side2 A8.out).mono ?_); (case side1 => exact cc_ (Kd.C_below HR1001_0.out HB.out)); (case side2 => exact HC1001_0.out); rintro e w15 ⟨rfl, hb⟩; refine ⟨_, rfl, ?_⟩; have n0_ := am_ (blk_below (g := gb1002) (vk_ BK1002) hb); have n1_ := am_ (below_step bg_ hb); clear BK1002; clear HB; have BK1002 := n0_; have HB := n1_; clear n0_ n1_; (try clear hb); (try clear hb2); (try clear hk); (try clear hi); refine hK.out _ _ ⟨(blk_cell BK1002.out 0).trans rfl, (blk_cell BK1002.out 1).trans rfl⟩ (fun hHeld => ?_); clear hK K; refine norm_ (a' := ?_) ?_ ?_; rotate_left
       ·show Act.put _ (some 22) _ = _; simp only [Act.put, List.setIfInBounds_toArray, List.set_cons_zero, List.set_cons_succ, i64_w, i32_w]; rfl
       refine pz_ 8 23 511 ?_; refine pz_ 9 24 1023 ?_; refine pz_ 10 25 2047 ?_; refine uz_ 11 26 4095 ?_; refine uz_ 12 27 8191 ?_; refine uz_ 13 28 16383 ?_; refine uz_ 14 29 32767 ?_; refine pz_ 15 30 65535 ?_; refine pz_ 16 31 131071 ?_; refine uz_ 17 32 262143 ?_; refine uz_ 18 33 524287 ?_; refine uz_ 19 34 1048575 ?_; refine uz_ 20 35 2097151 ?_; refine pz_ 21 36 4194303 ?_; refine pz_ 22 37 8388607 ?_; refine uz_ 23 38 16777215 ?_; refine uz_ 24 39 33554431 ?_; refine uz_ 25 40 67108863 ?_; refine uz_ 26 41 134217727 ?_; refine uz_ 27 42 268435455 ?_; refine uz_ 28 43 536870911 ?_; refine uz_ 29 44 1073741823 ?_; refine uz_ 30 45 2147483647 ?_; refine uz_ 31 46 4294967295 ?_; refine uz_ 32 47 8589934591 ?_; refine uz_ 33 48 17179869183 ?_; refine uz_ 34 49 34359738367 ?_; refine uz_ 35 50 68719476735 ?_; refine uz_ 36 51 137438953471 ?_; refine pz_ 37 52 274877906943 ?_; refine done_ (done_of HT_.out (by kernel_rfl)) ?_; (try go_wp2); go_ret; exact ⟨rf_, bg_⟩
      ·rw [if_neg c9] at H; have c9b0 := nb_ c9; have c9b1 := nn_ c9
       by_cases c16 : (((rd_T56 l0 x10_1).f1).length : Int) = 0
       ·rw [if_pos c16] at H; have c16b0 := eb_ c16; have c16b1 := en_ c16; clear c16; obtain rfl := si_ H; have p1001 : 0 ≤ (x10_1 : Int) := od_; have q1001 : x10_1 < (l0.length : Int) := od_; obtain ⟨ad1001, A1001_0, c1001_0, A1001_1, c1001_1, e1001, hx1001_0, hx1001_1, hl1001_0, hi1001_0, hl1001_1, hi1001_1⟩ := at_T56 HR0.out x10_1 p1001 q1001
        cases e1001
        replace hx1001_0 := kp_ HB hx1001_0; replace hx1001_1 := kp_ HB hx1001_1; have HR1001_0 := am_ hi1001_0; have HC1001_0 := am_ hl1001_0; clear hi1001_0 hl1001_0; have HR1001_1 := am_ hi1001_1; have HC1001_1 := am_ hl1001_1; clear hi1001_1 hl1001_1; replace p1001 := eq_true p1001; replace q1001 := eq_true q1001; (try go_wp2_with (first | ((with_reducible refine gate_dst (N := 4) rfl ?_); (try (refine gate_guard (by rfl) ?_; dsimp only)); refine bx_ 4 #[.slice none 0 0, .slice none 0 0] 56 ?_; intro gb1002 hg w17 hbox hb; have BK1002 := am_ (hbox); have GW1002 := am_ (gs_ hg : w.heap.size ≤ gb1002); replace HB := am_ (below_step bl_ hb); have GE1002 := GW1002; clear hb hbox hg; have hz18 := bk2_ BK1002))); have n0_ : Aside0 (((w17.setCell ⟨gb1002, 0, none⟩ (.slice A1001_0 ((rd_T56 l0 x10_1).f0).length c1001_0)).setCell ⟨gb1002, 1, none⟩ (.slice A1001_1 ((rd_T56 l0 x10_1).f1).length c1001_1)).heap[gb1002]? = some (.cells #[.slice A1001_0 ((rd_T56 l0 x10_1).f0).length c1001_0, .slice A1001_1 ((rd_T56 l0 x10_1).f1).length c1001_1] 56 (0, 0))) := ⟨by (with_reducible repeat (first | refine blk_drewN ?_ _ | refine blk_drew ?_ | refine blk_alloc ?_ _)); refine blk_put (cs := #[.slice A1001_0 ((rd_T56 l0 x10_1).f0).length c1001_0, .slice none 0 0]) ?_ 1 _ rfl; (with_reducible repeat (first | refine blk_drewN ?_ _ | refine blk_drew ?_ | refine blk_alloc ?_ _)); refine blk_put (cs := #[.slice none 0 0, .slice none 0 0]) ?_ 0 _ rfl; (with_reducible repeat (first | refine blk_drewN ?_ _ | refine blk_drew ?_ | refine blk_alloc ?_ _)); exact BK1002.out⟩; have n1_ : Aside0 (Below w.heap.size w ((w17.setCell ⟨gb1002, 0, none⟩ (.slice A1001_0 ((rd_T56 l0 x10_1).f0).length c1001_0)).setCell ⟨gb1002, 1, none⟩ (.slice A1001_1 ((rd_T56 l0 x10_1).f1).length c1001_1))) := ⟨bg_⟩; (try clear BK1002); (try clear HB); generalize ((w17.setCell ⟨gb1002, 0, none⟩ (.slice A1001_0 ((rd_T56 l0 x10_1).f0).length c1001_0)).setCell ⟨gb1002, 1, none⟩ (.slice A1001_1 ((rd_T56 l0 x10_1).f1).length c1001_1)) = w19 at n0_ n1_ ⊢; have BK1002 := n0_; have HB := n1_; clear n0_ n1_; have n0_ := am_ (blk_drew BK1002.out); have n1_ := am_ (below_drew1 HB.out); clear BK1002; clear HB; have BK1002 := n0_; have HB := n1_; clear n0_ n1_; refine start_ (n := 38) (S := fun w' => w'.cell? ⟨gb1002, 0, none⟩ = some (.slice A1001_0 ((rd_T56 l0 x10_1).f0).length c1001_0) ∧ w'.cell? ⟨gb1002, 1, none⟩ = some (.slice A1001_1 ((rd_T56 l0 x10_1).f1).length c1001_1)) (ds := []) (bz 38 0) (by kernel_rfl) rfl rfl ⟨(blk_cell BK1002.out 0).trans rfl, (blk_cell BK1002.out 1).trans rfl⟩ (fun hHeld => ?_); refine with_tabW impl_GoodSeries.tab6 impl_GoodSeries.bits6 (fun HT_ HW_ => ?_); generalize w19.drew = w20 at BK1002 HB hHeld ⊢; refine pz_ 0 15 1 ?_; refine tz_ 1 16 3 ?_; refine one_ (i := 2) (N := some 17) (bz 38 7) rfl rfl (one_of HT_.out (by kernel_rfl)) (by decide) (fun K hK => ?_); refine goes_ Tryz.func67 (by kernel_rfl) rfl #[.slice A1001_0 ((rd_T56 l0 x10_1).f0).length c1001_0] (by rfl) rfl rfl ag_ ?_; (with_reducible refine (impl_GoodLabels.calls k1 _ _ ((rd_T56 l0 x10_1).f0) true _ ?side1 ?side2 A6.out).mono ?_); (case side1 => exact cc_ (Kd.C_below HR1001_0.out HB.out)); (case side2 => exact HC1001_0.out); rintro e w21 ⟨rfl, hb⟩; refine ⟨_, rfl, ?_⟩; have n0_ := am_ (blk_below (g := gb1002) (vk_ BK1002) hb); have n1_ := am_ (below_step bg_ hb); clear BK1002; clear HB; have BK1002 := n0_; have HB := n1_; clear n0_ n1_; (try clear hb); (try clear hb2); (try clear hk); (try clear hi); refine hK.out _ _ ⟨(blk_cell BK1002.out 0).trans rfl, (blk_cell BK1002.out 1).trans rfl⟩ (fun hHeld => ?_); clear hK K; refine norm_ (a' := ?_) ?_ ?_; rotate_left
        ·show Act.put _ (some 17) _ = _; simp only [Act.put, List.setIfInBounds_toArray, List.set_cons_zero, List.set_cons_succ, i64_w, i32_w]; rfl
        refine pz_ 3 18 15 ?_; refine pz_ 4 19 31 ?_; refine pz_ 5 20 63 ?_; refine tz_ 6 21 127 ?_; refine one_ (i := 7) (N := some 22) (bz 38 255) rfl rfl (one_of HT_.out (by kernel_rfl)) (by decide) (fun K hK => ?_); refine goes_ Tryz.func68 (by kernel_rfl) rfl #[.slice A1001_0 ((rd_T56 l0 x10_1).f0).length c1001_0, .string (⟨#[95, 110, 97, 109, 101]⟩ : ByteArray)] (by rfl) rfl rfl ag_ ?_; (with_reducible refine (impl_valueOf.calls k1 _ _ ((rd_T56 l0 x10_1).f0) (⟨#[95, 110, 97, 109, 101]⟩ : ByteArray) t1004 _ ?side1 ?side2 A8.out).mono ?_); (case side1 => exact cc_ (Kd.C_below HR1001_0.out HB.out)); (case side2 => exact HC1001_0.out); rintro e w22 ⟨rfl, hb⟩; refine ⟨_, rfl, ?_⟩; have n0_ := am_ (blk_below (g := gb1002) (vk_ BK1002) hb); have n1_ := am_ (below_step bg_ hb); clear BK1002; clear HB; have BK1002 := n0_; have HB := n1_; clear n0_ n1_; (try clear hb); (try clear hb2); (try clear hk); (try clear hi); refine hK.out _ _ ⟨(blk_cell BK1002.out 0).trans rfl, (blk_cell BK1002.out 1).trans rfl⟩ (fun hHeld => ?_); clear hK K; refine norm_ (a' := ?_) ?_ ?_; rotate_left
        ·show Act.put _ (some 22) _ = _; simp only [Act.put, List.setIfInBounds_toArray, List.set_cons_zero, List.set_cons_succ, i64_w, i32_w]; rfl
        refine pz_ 8 23 511 ?_; refine pz_ 9 24 1023 ?_; refine pz_ 10 25 2047 ?_; refine pz_ 11 26 4095 ?_; refine tz_ 12 27 8191 ?_; refine pz_ 13 28 16383 ?_; refine pz_ 14 29 32767 ?_; refine pz_ 15 30 65535 ?_; refine pz_ 16 31 131071 ?_; refine uz_ 17 32 262143 ?_; refine uz_ 18 33 524287 ?_; refine uz_ 19 34 1048575 ?_; refine uz_ 20 35 2097151 ?_; refine pz_ 21 36 4194303 ?_; refine pz_ 22 37 8388607 ?_; refine uz_ 23 38 16777215 ?_; refine uz_ 24 39 33554431 ?_; refine uz_ 25 40 67108863 ?_; refine uz_ 26 41 134217727 ?_; refine uz_ 27 42 268435455 ?_; refine uz_ 28 43 536870911 ?_; refine uz_ 29 44 1073741823 ?_; refine uz_ 30 45 2147483647 ?_; refine uz_ 31 46 4294967295 ?_; refine uz_ 32 47 8589934591 ?_; refine uz_ 33 48 17179869183 ?_; refine uz_ 34 49 34359738367 ?_; refine uz_ 35 50 68719476735 ?_; refine uz_ 36 51 137438953471 ?_; refine pz_ 37 52 274877906943 ?_; refine done_ (done_of HT_.out (by kernel_rfl)) ?_; (try go_wp2); go_ret; exact ⟨rf_, bg_⟩
       ·rw [if_neg c16] at H; have c16b0 := nb_ c16; have c16b1 := nn_ c16; have c16b2 : ¬ (((rd_T56 l0 x10_1).f1) = []) := fun h_ => c16 (by rw [h_]; rfl)
        obtain ⟨t1005, A23, H⟩ := bs_ H
        by_cases c24 : t1005 = true
        ·subst c24; replace H := it_ H
         by_cases c25 : x10_1 > 0
         ·rw [if_pos c25] at H; have c25b0 := dg_ c25; clear c25; obtain ⟨ji26, hji26⟩ : ∃ j_ : Int, (wrap64 (x10_1 - 1)) = j_ := ⟨_, rfl⟩; replace H : (if 0 ≤ (ji26) then (if (ji26) < (l0.length : Int) then ((impl_compare.f k1 ((rd_T56 l0 (ji26)).f0) ((rd_T56 l0 x10_1).f0)).bind fun t1007 => (if t1007 ≥ 0 then (some false) else (impl_GoodSeries.l0 k1 l0 l0 (l0.length : Int) (wrap64 (x10_1 + 1))))) else (none)) else (none)) = some r := by first | (rw [hji26] at H; exact H) | (simp only [hji26] at H ⊢; exact H)
          (try rw [hji26] at A6); (try rw [hji26] at A8); (try rw [hji26] at A23); have hji26w : (IntKind.i64.wrap (x10_1 - 1)) = ji26 := (i64_w _).trans hji26; obtain ⟨c27, H⟩ := is_ H; have c27b0 := decide_eq_true c27; clear c27; obtain ⟨c28, H⟩ := is_ H; have c28b0 := decide_eq_true c28; clear c28; obtain ⟨t1007, A29, H⟩ := bs_ H
          by_cases c30 : t1007 ≥ 0
          ·rw [if_pos c30] at H; have c30b0 : decide (0 ≤ t1007) = true := decide_eq_true c30; clear c30; obtain rfl := si_ H; have p1001 : 0 ≤ (x10_1 : Int) := od_; have q1001 : x10_1 < (l0.length : Int) := od_; obtain ⟨ad1001, A1001_0, c1001_0, A1001_1, c1001_1, e1001, hx1001_0, hx1001_1, hl1001_0, hi1001_0, hl1001_1, hi1001_1⟩ := at_T56 HR0.out x10_1 p1001 q1001
           cases e1001
           replace hx1001_0 := kp_ HB hx1001_0; replace hx1001_1 := kp_ HB hx1001_1; have HR1001_0 := am_ hi1001_0; have HC1001_0 := am_ hl1001_0; clear hi1001_0 hl1001_0; have HR1001_1 := am_ hi1001_1; have HC1001_1 := am_ hl1001_1; clear hi1001_1 hl1001_1; replace p1001 := eq_true p1001; replace q1001 := eq_true q1001; (try go_wp2_with (first | ((with_reducible refine gate_dst (N := 4) rfl ?_); (try (refine gate_guard (by rfl) ?_; dsimp only)); refine bx_ 4 #[.slice none 0 0, .slice none 0 0] 56 ?_; intro gb1002 hg w31 hbox hb; have BK1002 := am_ (hbox); have GW1002 := am_ (gs_ hg : w.heap.size ≤ gb1002); replace HB := am_ (below_step bl_ hb); have GE1002 := GW1002; clear hb hbox hg; have hz32 := bk2_ BK1002))); have n0_ : Aside0 (((w31.setCell ⟨gb1002, 0, none⟩ (.slice A1001_0 ((rd_T56 l0 x10_1).f0).length c1001_0)).setCell ⟨gb1002, 1, none⟩ (.slice A1001_1 ((rd_T56 l0 x10_1).f1).length c1001_1)).heap[gb1002]? = some (.cells #[.slice A1001_0 ((rd_T56 l0 x10_1).f0).length c1001_0, .slice A1001_1 ((rd_T56 l0 x10_1).f1).length c1001_1] 56 (0, 0))) := ⟨by (with_reducible repeat (first | refine blk_drewN ?_ _ | refine blk_drew ?_ | refine blk_alloc ?_ _)); refine blk_put (cs := #[.slice A1001_0 ((rd_T56 l0 x10_1).f0).length c1001_0, .slice none 0 0]) ?_ 1 _ rfl; (with_reducible repeat (first | refine blk_drewN ?_ _ | refine blk_drew ?_ | refine blk_alloc ?_ _)); refine blk_put (cs := #[.slice none 0 0, .slice none 0 0]) ?_ 0 _ rfl; (with_reducible repeat (first | refine blk_drewN ?_ _ | refine blk_drew ?_ | refine blk_alloc ?_ _)); exact BK1002.out⟩; have n1_ : Aside0 (Below w.heap.size w ((w31.setCell ⟨gb1002, 0, none⟩ (.slice A1001_0 ((rd_T56 l0 x10_1).f0).length c1001_0)).setCell ⟨gb1002, 1, none⟩ (.slice A1001_1 ((rd_T56 l0 x10_1).f1).length c1001_1))) := ⟨bg_⟩; (try clear BK1002); (try clear HB); generalize ((w31.setCell ⟨gb1002, 0, none⟩ (.slice A1001_0 ((rd_T56 l0 x10_1).f0).length c1001_0)).setCell ⟨gb1002, 1, none⟩ (.slice A1001_1 ((rd_T56 l0 x10_1).f1).length c1001_1)) = w33 at n0_ n1_ ⊢; have BK1002 := n0_; have HB := n1_; clear n0_ n1_; have n0_ := am_ (blk_drew BK1002.out); have n1_ := am_ (below_drew1 HB.out); clear BK1002; clear HB; have BK1002 := n0_; have HB := n1_; clear n0_ n1_; have p1006 : 0 ≤ ((ji26) : Int) := od_; have q1006 : (ji26) < (l0.length : Int) := od_; obtain ⟨ad1006, A1006_0, c1006_0, A1006_1, c1006_1, e1006, hx1006_0, hx1006_1, hl1006_0, hi1006_0, hl1006_1, hi1006_1⟩ := at_T56 HR0.out (ji26) p1006 q1006; have hw1006_1 := hx1006_1; have hw1006_0 := hx1006_0; obtain rfl : ad1001 = ad1006 := (by injection e1006); replace hx1006_0 := kp_ HB hx1006_0; replace hx1006_1 := kp_ HB hx1006_1; have HR1006_0 := am_ hi1006_0; have HC1006_0 := am_ hl1006_0; clear hi1006_0 hl1006_0; have HR1006_1 := am_ hi1006_1; have HC1006_1 := am_ hl1006_1; clear hi1006_1 hl1006_1; replace p1006 := eq_true p1006; replace q1006 := eq_true q1006; refine start_ (n := 38) (S := fun w' => w'.cell? ⟨gb1002, 0, none⟩ = some (.slice A1001_0 ((rd_T56 l0 x10_1).f0).length c1001_0) ∧ w'.cell? ⟨gb1002, 1, none⟩ = some (.slice A1001_1 ((rd_T56 l0 x10_1).f1).length c1001_1) ∧ w'.cell? (ad1001.add (((ji26)).toNat * 2)) = some (.slice A1006_0 ((rd_T56 l0 (ji26)).f0).length c1006_0) ∧ w'.cell? ⟨(ad1001.add (((ji26)).toNat * 2)).block, (ad1001.add (((ji26)).toNat * 2)).off + 1, none⟩ = some (.slice A1006_1 ((rd_T56 l0 (ji26)).f1).length c1006_1)) (ds := []) (bz 38 0) (by kernel_rfl) rfl rfl ⟨(blk_cell BK1002.out 0).trans rfl, (blk_cell BK1002.out 1).trans rfl, (kp_ HB hw1006_0 :), (kp_ HB hw1006_1 :)⟩ (fun hHeld => ?_); refine with_tabW impl_GoodSeries.tab6 impl_GoodSeries.bits6 (fun HT_ HW_ => ?_); generalize w33.drew = w34 at BK1002 HB HR1006_0 HR1006_1 hx1006_0 hx1006_1 hHeld ⊢; refine pz_ 0 15 1 ?_; refine tz_ 1 16 3 ?_; refine one_ (i := 2) (N := some 17) (bz 38 7) rfl rfl (one_of HT_.out (by kernel_rfl)) (by decide) (fun K hK => ?_); refine goes_ Tryz.func67 (by kernel_rfl) rfl #[.slice A1001_0 ((rd_T56 l0 x10_1).f0).length c1001_0] (by rfl) rfl rfl ag_ ?_; (with_reducible refine (impl_GoodLabels.calls k1 _ _ ((rd_T56 l0 x10_1).f0) true _ ?side1 ?side2 A6.out).mono ?_); (case side1 => exact cc_ (Kd.C_below HR1001_0.out HB.out)); (case side2 => exact HC1001_0.out); rintro e w35 ⟨rfl, hb⟩; refine ⟨_, rfl, ?_⟩; have n0_ := am_ (blk_below (g := gb1002) (vk_ BK1002) hb); have n1_ := am_ (below_step bg_ hb); clear BK1002; clear HB; have BK1002 := n0_; have HB := n1_; clear n0_ n1_; (try clear hb); (try clear hb2); (try clear hk); (try clear hi); refine hK.out _ _ ⟨(blk_cell BK1002.out 0).trans rfl, (blk_cell BK1002.out 1).trans rfl, (kp_ HB hw1006_0 :), (kp_ HB hw1006_1 :)⟩ (fun hHeld => ?_); clear hK K; refine norm_ (a' := ?_) ?_ ?_; rotate_left
           ·show Act.put _ (some 17) _ = _; simp only [Act.put, List.setIfInBounds_toArray, List.set_cons_zero, List.set_cons_succ, i64_w, i32_w]; rfl
           refine pz_ 3 18 15 ?_; refine pz_ 4 19 31 ?_; refine pz_ 5 20 63 ?_; refine tz_ 6 21 127 ?_; refine one_ (i := 7) (N := some 22) (bz 38 255) rfl rfl (one_of HT_.out (by kernel_rfl)) (by decide) (fun K hK => ?_); refine goes_ Tryz.func68 (by kernel_rfl) rfl #[.slice A1001_0 ((rd_T56 l0 x10_1).f0).length c1001_0, .string (⟨#[95, 110, 97, 109, 101]⟩ : ByteArray)] (by rfl) rfl rfl ag_ ?_; (with_reducible refine (impl_valueOf.calls k1 _ _ ((rd_T56 l0 x10_1).f0) (⟨#[95, 110, 97, 109, 101]⟩ : ByteArray) t1004 _ ?side1 ?side2 A8.out).mono ?_); (case side1 => exact cc_ (Kd.C_below HR1001_0.out HB.out)); (case side2 => exact HC1001_0.out); rintro e w36 ⟨rfl, hb⟩; refine ⟨_, rfl, ?_⟩; have n0_ := am_ (blk_below (g := gb1002) (vk_ BK1002) hb); have n1_ := am_ (below_step bg_ hb); clear BK1002; clear HB; have BK1002 := n0_; have HB := n1_; clear n0_ n1_; (try clear hb); (try clear hb2); (try clear hk); (try clear hi); refine hK.out _ _ ⟨(blk_cell BK1002.out 0).trans rfl, (blk_cell BK1002.out 1).trans rfl, (kp_ HB hw1006_0 :), (kp_ HB hw1006_1 :)⟩ (fun hHeld => ?_); clear hK K; refine norm_ (a' := ?_) ?_ ?_; rotate_left
           ·show Act.put _ (some 22) _ = _; simp only [Act.put, List.setIfInBounds_toArray, List.set_cons_zero, List.set_cons_succ, i64_w, i32_w]; rfl
           refine pz_ 8 23 511 ?_; refine pz_ 9 24 1023 ?_; refine pz_ 10 25 2047 ?_; refine pz_ 11 26 4095 ?_; refine tz_ 12 27 8191 ?_; refine pz_ 13 28 16383 ?_; refine pz_ 14 29 32767 ?_; refine pz_ 15 30 65535 ?_; refine pz_ 16 31 131071 ?_; refine pz_ 17 32 262143 ?_; refine tz_ 18 33 524287 ?_; refine one_ (i := 19) (N := some 34) (bz 38 1048575) rfl rfl (one_of HT_.out (by kernel_rfl)) (by decide) (fun K hK => ?_); refine goes_ Tryz.func69 (by kernel_rfl) rfl #[.slice A1001_1 ((rd_T56 l0 x10_1).f1).length c1001_1] (by rfl) rfl rfl ag_ ?_; (with_reducible refine (impl_GoodSamples.calls k1 _ _ ((rd_T56 l0 x10_1).f1) true _ ?side1 ?side2 A23.out).mono ?_); (case side1 => exact cc_ (Kd.C_below HR1001_1.out HB.out)); (case side2 => exact HC1001_1.out); rintro e w37 ⟨rfl, hb⟩; refine ⟨_, rfl, ?_⟩; have n0_ := am_ (blk_below (g := gb1002) (vk_ BK1002) hb); have n1_ := am_ (below_step bg_ hb); clear BK1002; clear HB; have BK1002 := n0_; have HB := n1_; clear n0_ n1_; (try clear hb); (try clear hb2); (try clear hk); (try clear hi); refine hK.out _ _ ⟨(blk_cell BK1002.out 0).trans rfl, (blk_cell BK1002.out 1).trans rfl, (kp_ HB hw1006_0 :), (kp_ HB hw1006_1 :)⟩ (fun hHeld => ?_); clear hK K; refine norm_ (a' := ?_) ?_ ?_; rotate_left
           ·show Act.put _ (some 34) _ = _; simp only [Act.put, List.setIfInBounds_toArray, List.set_cons_zero, List.set_cons_succ, i64_w, i32_w]; rfl
           refine pz_ 20 35 2097151 ?_; refine pz_ 21 36 4194303 ?_; refine pz_ 22 37 8388607 ?_; refine pz_ 23 38 16777215 ?_; refine pz_ 24 39 33554431 ?_; refine pz_ 25 40 67108863 ?_; refine pz_ 26 41 134217727 ?_; refine pz_ 27 42 268435455 ?_; refine pz_ 28 43 536870911 ?_; refine pz_ 29 44 1073741823 ?_; refine pz_ 30 45 2147483647 ?_; refine pz_ 32 47 6442450943 ?_; refine tz_ 31 46 8589934591 ?_; refine tz_ 33 48 17179869183 ?_; refine one_ (i := 34) (N := some 49) (bz 38 34359738367) rfl rfl (one_of HT_.out (by kernel_rfl)) (by decide) (fun K hK => ?_); refine goes_ Tryz.func70 (by kernel_rfl) rfl #[.slice A1006_0 ((rd_T56 l0 (ji26)).f0).length c1006_0, .slice A1001_0 ((rd_T56 l0 x10_1).f0).length c1001_0] (by rfl) rfl rfl (by (try simp only [List.map_toArray, List.map_cons, List.map_nil]); first | done | (simp only [hji26]; rfl) | rfl | (simp only [List.length_drop, List.length_take]; rfl)) ?_; (with_reducible refine (impl_compare.calls k1 _ _ ((rd_T56 l0 (ji26)).f0) _ _ ((rd_T56 l0 x10_1).f0) t1007 _ ?side1 ?side2 ?side3 ?side4 A29.out).mono ?_); (case side1 => exact cc_ (Kd.C_below HR1006_0.out HB.out)); (case side2 => exact HC1006_0.out); (case side3 => exact cc_ (Kd.C_below HR1001_0.out HB.out)); (case side4 => exact HC1001_0.out); rintro e w38 ⟨rfl, hb⟩; refine ⟨_, rfl, ?_⟩; have n0_ := am_ (blk_below (g := gb1002) (vk_ BK1002) hb); have n1_ := am_ (below_step bg_ hb); clear BK1002; clear HB; have BK1002 := n0_; have HB := n1_; clear n0_ n1_; (try clear hb); (try clear hb2); (try clear hk); (try clear hi); refine hK.out _ _ ⟨(blk_cell BK1002.out 0).trans rfl, (blk_cell BK1002.out 1).trans rfl, (kp_ HB hw1006_0 :), (kp_ HB hw1006_1 :)⟩ (fun hHeld => ?_); clear hK K; refine norm_ (a' := ?_) ?_ ?_; rotate_left
           ·show Act.put _ (some 49) _ = _; simp only [Act.put, List.setIfInBounds_toArray, List.set_cons_zero, List.set_cons_succ, i64_w, i32_w]; rfl
           refine pz_ 35 50 68719476735 ?_; refine pz_ 36 51 137438953471 ?_; refine pz_ 37 52 274877906943 ?_; refine done_ (done_of HT_.out (by kernel_rfl)) ?_; (try go_wp2); go_ret; exact ⟨by first | rfl | (simp [errW_none, errW_some] <;> rfl) | (simp only [← hji26]; first | rfl | (simp [errW_none, errW_some] <;> rfl)) | (simp [*, errW_none, errW_some] <;> rfl) | (simp [*, Go.Proofs.YthkhflhmnjgbnaaGreat.Gt.nil_bne]; done), bg_⟩
          ·rw [if_neg c30] at H; have c30b0 : decide (0 ≤ t1007) = false := decide_eq_false c30; clear c30; have H' := am_ H; clear H; have p1001 : 0 ≤ (x10_1 : Int) := od_; have q1001 : x10_1 < (l0.length : Int) := od_; obtain ⟨ad1001, A1001_0, c1001_0, A1001_1, c1001_1, e1001, hx1001_0, hx1001_1, hl1001_0, hi1001_0, hl1001_1, hi1001_1⟩ := at_T56 HR0.out x10_1 p1001 q1001
           cases e1001
           replace hx1001_0 := kp_ HB hx1001_0; replace hx1001_1 := kp_ HB hx1001_1; have HR1001_0 := am_ hi1001_0; have HC1001_0 := am_ hl1001_0; clear hi1001_0 hl1001_0; have HR1001_1 := am_ hi1001_1; have HC1001_1 := am_ hl1001_1; clear hi1001_1 hl1001_1; replace p1001 := eq_true p1001; replace q1001 := eq_true q1001; (try go_wp2_with (first | ((with_reducible refine gate_dst (N := 4) rfl ?_); (try (refine gate_guard (by rfl) ?_; dsimp only)); refine bx_ 4 #[.slice none 0 0, .slice none 0 0] 56 ?_; intro gb1002 hg w39 hbox hb; have BK1002 := am_ (hbox); have GW1002 := am_ (gs_ hg : w.heap.size ≤ gb1002); replace HB := am_ (below_step bl_ hb); have GE1002 := GW1002; clear hb hbox hg; have hz40 := bk2_ BK1002))); have n0_ : Aside0 (((w39.setCell ⟨gb1002, 0, none⟩ (.slice A1001_0 ((rd_T56 l0 x10_1).f0).length c1001_0)).setCell ⟨gb1002, 1, none⟩ (.slice A1001_1 ((rd_T56 l0 x10_1).f1).length c1001_1)).heap[gb1002]? = some (.cells #[.slice A1001_0 ((rd_T56 l0 x10_1).f0).length c1001_0, .slice A1001_1 ((rd_T56 l0 x10_1).f1).length c1001_1] 56 (0, 0))) := ⟨by (with_reducible repeat (first | refine blk_drewN ?_ _ | refine blk_drew ?_ | refine blk_alloc ?_ _)); refine blk_put (cs := #[.slice A1001_0 ((rd_T56 l0 x10_1).f0).length c1001_0, .slice none 0 0]) ?_ 1 _ rfl; (with_reducible repeat (first | refine blk_drewN ?_ _ | refine blk_drew ?_ | refine blk_alloc ?_ _)); refine blk_put (cs := #[.slice none 0 0, .slice none 0 0]) ?_ 0 _ rfl; (with_reducible repeat (first | refine blk_drewN ?_ _ | refine blk_drew ?_ | refine blk_alloc ?_ _)); exact BK1002.out⟩; have n1_ : Aside0 (Below w.heap.size w ((w39.setCell ⟨gb1002, 0, none⟩ (.slice A1001_0 ((rd_T56 l0 x10_1).f0).length c1001_0)).setCell ⟨gb1002, 1, none⟩ (.slice A1001_1 ((rd_T56 l0 x10_1).f1).length c1001_1))) := ⟨bg_⟩; (try clear BK1002); (try clear HB); generalize ((w39.setCell ⟨gb1002, 0, none⟩ (.slice A1001_0 ((rd_T56 l0 x10_1).f0).length c1001_0)).setCell ⟨gb1002, 1, none⟩ (.slice A1001_1 ((rd_T56 l0 x10_1).f1).length c1001_1)) = w41 at n0_ n1_ ⊢; have BK1002 := n0_; have HB := n1_; clear n0_ n1_; have n0_ := am_ (blk_drew BK1002.out); have n1_ := am_ (below_drew1 HB.out); clear BK1002; clear HB; have BK1002 := n0_; have HB := n1_; clear n0_ n1_; have p1006 : 0 ≤ ((ji26) : Int) := od_; have q1006 : (ji26) < (l0.length : Int) := od_; obtain ⟨ad1006, A1006_0, c1006_0, A1006_1, c1006_1, e1006, hx1006_0, hx1006_1, hl1006_0, hi1006_0, hl1006_1, hi1006_1⟩ := at_T56 HR0.out (ji26) p1006 q1006; have hw1006_1 := hx1006_1; have hw1006_0 := hx1006_0; obtain rfl : ad1001 = ad1006 := (by injection e1006); replace hx1006_0 := kp_ HB hx1006_0; replace hx1006_1 := kp_ HB hx1006_1; have HR1006_0 := am_ hi1006_0; have HC1006_0 := am_ hl1006_0; clear hi1006_0 hl1006_0; have HR1006_1 := am_ hi1006_1; have HC1006_1 := am_ hl1006_1; clear hi1006_1 hl1006_1; replace p1006 := eq_true p1006; replace q1006 := eq_true q1006; refine start_ (n := 38) (S := fun w' => w'.cell? ⟨gb1002, 0, none⟩ = some (.slice A1001_0 ((rd_T56 l0 x10_1).f0).length c1001_0) ∧ w'.cell? ⟨gb1002, 1, none⟩ = some (.slice A1001_1 ((rd_T56 l0 x10_1).f1).length c1001_1) ∧ w'.cell? (ad1001.add (((ji26)).toNat * 2)) = some (.slice A1006_0 ((rd_T56 l0 (ji26)).f0).length c1006_0) ∧ w'.cell? ⟨(ad1001.add (((ji26)).toNat * 2)).block, (ad1001.add (((ji26)).toNat * 2)).off + 1, none⟩ = some (.slice A1006_1 ((rd_T56 l0 (ji26)).f1).length c1006_1)) (ds := []) (bz 38 0) (by kernel_rfl) rfl rfl ⟨(blk_cell BK1002.out 0).trans rfl, (blk_cell BK1002.out 1).trans rfl, (kp_ HB hw1006_0 :), (kp_ HB hw1006_1 :)⟩ (fun hHeld => ?_); refine with_tabW impl_GoodSeries.tab6 impl_GoodSeries.bits6 (fun HT_ HW_ => ?_); generalize w41.drew = w42 at BK1002 HB HR1006_0 HR1006_1 hx1006_0 hx1006_1 hHeld ⊢; refine pz_ 0 15 1 ?_; refine tz_ 1 16 3 ?_; refine one_ (i := 2) (N := some 17) (bz 38 7) rfl rfl (one_of HT_.out (by kernel_rfl)) (by decide) (fun K hK => ?_); refine goes_ Tryz.func67 (by kernel_rfl) rfl #[.slice A1001_0 ((rd_T56 l0 x10_1).f0).length c1001_0] (by rfl) rfl rfl ag_ ?_; (with_reducible refine (impl_GoodLabels.calls k1 _ _ ((rd_T56 l0 x10_1).f0) true _ ?side1 ?side2 A6.out).mono ?_); (case side1 => exact cc_ (Kd.C_below HR1001_0.out HB.out)); (case side2 => exact HC1001_0.out); rintro e w43 ⟨rfl, hb⟩; refine ⟨_, rfl, ?_⟩; have n0_ := am_ (blk_below (g := gb1002) (vk_ BK1002) hb); have n1_ := am_ (below_step bg_ hb); clear BK1002; clear HB; have BK1002 := n0_; have HB := n1_; clear n0_ n1_; (try clear hb); (try clear hb2); (try clear hk); (try clear hi); refine hK.out _ _ ⟨(blk_cell BK1002.out 0).trans rfl, (blk_cell BK1002.out 1).trans rfl, (kp_ HB hw1006_0 :), (kp_ HB hw1006_1 :)⟩ (fun hHeld => ?_); clear hK K; refine norm_ (a' := ?_) ?_ ?_; rotate_left
           ·show Act.put _ (some 17) _ = _; simp only [Act.put, List.setIfInBounds_toArray, List.set_cons_zero, List.set_cons_succ, i64_w, i32_w]; rfl
           refine pz_ 3 18 15 ?_; refine pz_ 4 19 31 ?_; refine pz_ 5 20 63 ?_; refine tz_ 6 21 127 ?_; refine one_ (i := 7) (N := some 22) (bz 38 255) rfl rfl (one_of HT_.out (by kernel_rfl)) (by decide) (fun K hK => ?_); refine goes_ Tryz.func68 (by kernel_rfl) rfl #[.slice A1001_0 ((rd_T56 l0 x10_1).f0).length c1001_0, .string (⟨#[95, 110, 97, 109, 101]⟩ : ByteArray)] (by rfl) rfl rfl ag_ ?_; (with_reducible refine (impl_valueOf.calls k1 _ _ ((rd_T56 l0 x10_1).f0) (⟨#[95, 110, 97, 109, 101]⟩ : ByteArray) t1004 _ ?side1 ?side2 A8.out).mono ?_); (case side1 => exact cc_ (Kd.C_below HR1001_0.out HB.out)); (case side2 => exact HC1001_0.out); rintro e w44 ⟨rfl, hb⟩; refine ⟨_, rfl, ?_⟩; have n0_ := am_ (blk_below (g := gb1002) (vk_ BK1002) hb); have n1_ := am_ (below_step bg_ hb); clear BK1002; clear HB; have BK1002 := n0_; have HB := n1_; clear n0_ n1_; (try clear hb); (try clear hb2); (try clear hk); (try clear hi); refine hK.out _ _ ⟨(blk_cell BK1002.out 0).trans rfl, (blk_cell BK1002.out 1).trans rfl, (kp_ HB hw1006_0 :), (kp_ HB hw1006_1 :)⟩ (fun hHeld => ?_); clear hK K; refine norm_ (a' := ?_) ?_ ?_; rotate_left
           ·show Act.put _ (some 22) _ = _; simp only [Act.put, List.setIfInBounds_toArray, List.set_cons_zero, List.set_cons_succ, i64_w, i32_w]; rfl
           refine pz_ 8 23 511 ?_; refine pz_ 9 24 1023 ?_; refine pz_ 10 25 2047 ?_; refine pz_ 11 26 4095 ?_; refine tz_ 12 27 8191 ?_; refine pz_ 13 28 16383 ?_; refine pz_ 14 29 32767 ?_; refine pz_ 15 30 65535 ?_; refine pz_ 16 31 131071 ?_; refine pz_ 17 32 262143 ?_; refine tz_ 18 33 524287 ?_; refine one_ (i := 19) (N := some 34) (bz 38 1048575) rfl rfl (one_of HT_.out (by kernel_rfl)) (by decide) (fun K hK => ?_); refine goes_ Tryz.func69 (by kernel_rfl) rfl #[.slice A1001_1 ((rd_T56 l0 x10_1).f1).length c1001_1] (by rfl) rfl rfl ag_ ?_; (with_reducible refine (impl_GoodSamples.calls k1 _ _ ((rd_T56 l0 x10_1).f1) true _ ?side1 ?side2 A23.out).mono ?_); (case side1 => exact cc_ (Kd.C_below HR1001_1.out HB.out)); (case side2 => exact HC1001_1.out); rintro e w45 ⟨rfl, hb⟩; refine ⟨_, rfl, ?_⟩; have n0_ := am_ (blk_below (g := gb1002) (vk_ BK1002) hb); have n1_ := am_ (below_step bg_ hb); clear BK1002; clear HB; have BK1002 := n0_; have HB := n1_; clear n0_ n1_; (try clear hb); (try clear hb2); (try clear hk); (try clear hi); refine hK.out _ _ ⟨(blk_cell BK1002.out 0).trans rfl, (blk_cell BK1002.out 1).trans rfl, (kp_ HB hw1006_0 :), (kp_ HB hw1006_1 :)⟩ (fun hHeld => ?_); clear hK K; refine norm_ (a' := ?_) ?_ ?_; rotate_left
           ·show Act.put _ (some 34) _ = _; simp only [Act.put, List.setIfInBounds_toArray, List.set_cons_zero, List.set_cons_succ, i64_w, i32_w]; rfl
           refine pz_ 20 35 2097151 ?_; refine pz_ 21 36 4194303 ?_; refine pz_ 22 37 8388607 ?_; refine pz_ 23 38 16777215 ?_; refine pz_ 24 39 33554431 ?_; refine pz_ 25 40 67108863 ?_; refine pz_ 26 41 134217727 ?_; refine pz_ 27 42 268435455 ?_; refine pz_ 28 43 536870911 ?_; refine pz_ 29 44 1073741823 ?_; refine pz_ 30 45 2147483647 ?_; refine pz_ 32 47 6442450943 ?_; refine tz_ 31 46 8589934591 ?_; refine tz_ 33 48 17179869183 ?_; refine one_ (i := 34) (N := some 49) (bz 38 34359738367) rfl rfl (one_of HT_.out (by kernel_rfl)) (by decide) (fun K hK => ?_); refine goes_ Tryz.func70 (by kernel_rfl) rfl #[.slice A1006_0 ((rd_T56 l0 (ji26)).f0).length c1006_0, .slice A1001_0 ((rd_T56 l0 x10_1).f0).length c1001_0] (by rfl) rfl rfl (by (try simp only [List.map_toArray, List.map_cons, List.map_nil]); first | done | (simp only [hji26]; rfl) | rfl | (simp only [List.length_drop, List.length_take]; rfl)) ?_; (with_reducible refine (impl_compare.calls k1 _ _ ((rd_T56 l0 (ji26)).f0) _ _ ((rd_T56 l0 x10_1).f0) t1007 _ ?side1 ?side2 ?side3 ?side4 A29.out).mono ?_); (case side1 => exact cc_ (Kd.C_below HR1006_0.out HB.out)); (case side2 => exact HC1006_0.out); (case side3 => exact cc_ (Kd.C_below HR1001_0.out HB.out)); (case side4 => exact HC1001_0.out); rintro e w46 ⟨rfl, hb⟩; refine ⟨_, rfl, ?_⟩; have n0_ := am_ (blk_below (g := gb1002) (vk_ BK1002) hb); have n1_ := am_ (below_step bg_ hb); clear BK1002; clear HB; have BK1002 := n0_; have HB := n1_; clear n0_ n1_; (try clear hb); (try clear hb2); (try clear hk); (try clear hi); refine hK.out _ _ ⟨(blk_cell BK1002.out 0).trans rfl, (blk_cell BK1002.out 1).trans rfl, (kp_ HB hw1006_0 :), (kp_ HB hw1006_1 :)⟩ (fun hHeld => ?_); clear hK K; refine norm_ (a' := ?_) ?_ ?_; rotate_left
           ·show Act.put _ (some 49) _ = _; simp only [Act.put, List.setIfInBounds_toArray, List.set_cons_zero, List.set_cons_succ, i64_w, i32_w]; rfl
           refine pz_ 35 50 68719476735 ?_; refine pz_ 36 51 137438953471 ?_; refine pz_ 37 52 274877906943 ?_; refine done_ (done_of HT_.out (by kernel_rfl)) ?_; (try go_wp2); go_roundg k1
           case measure => have := HK1.out; omega
           case rel => exact ⟨(wrap64 (x10_1 + 1)), rs_, H', ⟨by have := HK1.out; omega⟩, ⟨bg_⟩⟩
         ·rw [if_neg c25] at H; have c25b0 := df_ c25; clear c25; have H' := am_ H; clear H; have p1001 : 0 ≤ (x10_1 : Int) := od_; have q1001 : x10_1 < (l0.length : Int) := od_; obtain ⟨ad1001, A1001_0, c1001_0, A1001_1, c1001_1, e1001, hx1001_0, hx1001_1, hl1001_0, hi1001_0, hl1001_1, hi1001_1⟩ := at_T56 HR0.out x10_1 p1001 q1001
          cases e1001
          replace hx1001_0 := kp_ HB hx1001_0; replace hx1001_1 := kp_ HB hx1001_1; have HR1001_0 := am_ hi1001_0; have HC1001_0 := am_ hl1001_0; clear hi1001_0 hl1001_0; have HR1001_1 := am_ hi1001_1; have HC1001_1 := am_ hl1001_1; clear hi1001_1 hl1001_1; replace p1001 := eq_true p1001; replace q1001 := eq_true q1001; (try go_wp2_with (first | ((with_reducible refine gate_dst (N := 4) rfl ?_); (try (refine gate_guard (by rfl) ?_; dsimp only)); refine bx_ 4 #[.slice none 0 0, .slice none 0 0] 56 ?_; intro gb1002 hg w47 hbox hb; have BK1002 := am_ (hbox); have GW1002 := am_ (gs_ hg : w.heap.size ≤ gb1002); replace HB := am_ (below_step bl_ hb); have GE1002 := GW1002; clear hb hbox hg; have hz48 := bk2_ BK1002))); have n0_ : Aside0 (((w47.setCell ⟨gb1002, 0, none⟩ (.slice A1001_0 ((rd_T56 l0 x10_1).f0).length c1001_0)).setCell ⟨gb1002, 1, none⟩ (.slice A1001_1 ((rd_T56 l0 x10_1).f1).length c1001_1)).heap[gb1002]? = some (.cells #[.slice A1001_0 ((rd_T56 l0 x10_1).f0).length c1001_0, .slice A1001_1 ((rd_T56 l0 x10_1).f1).length c1001_1] 56 (0, 0))) := ⟨by (with_reducible repeat (first | refine blk_drewN ?_ _ | refine blk_drew ?_ | refine blk_alloc ?_ _)); refine blk_put (cs := #[.slice A1001_0 ((rd_T56 l0 x10_1).f0).length c1001_0, .slice none 0 0]) ?_ 1 _ rfl; (with_reducible repeat (first | refine blk_drewN ?_ _ | refine blk_drew ?_ | refine blk_alloc ?_ _)); refine blk_put (cs := #[.slice none 0 0, .slice none 0 0]) ?_ 0 _ rfl; (with_reducible repeat (first | refine blk_drewN ?_ _ | refine blk_drew ?_ | refine blk_alloc ?_ _)); exact BK1002.out⟩; have n1_ : Aside0 (Below w.heap.size w ((w47.setCell ⟨gb1002, 0, none⟩ (.slice A1001_0 ((rd_T56 l0 x10_1).f0).length c1001_0)).setCell ⟨gb1002, 1, none⟩ (.slice A1001_1 ((rd_T56 l0 x10_1).f1).length c1001_1))) := ⟨bg_⟩; (try clear BK1002); (try clear HB); generalize ((w47.setCell ⟨gb1002, 0, none⟩ (.slice A1001_0 ((rd_T56 l0 x10_1).f0).length c1001_0)).setCell ⟨gb1002, 1, none⟩ (.slice A1001_1 ((rd_T56 l0 x10_1).f1).length c1001_1)) = w49 at n0_ n1_ ⊢; have BK1002 := n0_; have HB := n1_; clear n0_ n1_; have n0_ := am_ (blk_drew BK1002.out); have n1_ := am_ (below_drew1 HB.out); clear BK1002; clear HB; have BK1002 := n0_; have HB := n1_; clear n0_ n1_; refine start_ (n := 38) (S := fun w' => w'.cell? ⟨gb1002, 0, none⟩ = some (.slice A1001_0 ((rd_T56 l0 x10_1).f0).length c1001_0) ∧ w'.cell? ⟨gb1002, 1, none⟩ = some (.slice A1001_1 ((rd_T56 l0 x10_1).f1).length c1001_1)) (ds := []) (bz 38 0) (by kernel_rfl) rfl rfl ⟨(blk_cell BK1002.out 0).trans rfl, (blk_cell BK1002.out 1).trans rfl⟩ (fun hHeld => ?_); refine with_tabW impl_GoodSeries.tab6 impl_GoodSeries.bits6 (fun HT_ HW_ => ?_); generalize w49.drew = w50 at BK1002 HB hHeld ⊢; refine pz_ 0 15 1 ?_; refine tz_ 1 16 3 ?_; refine one_ (i := 2) (N := some 17) (bz 38 7) rfl rfl (one_of HT_.out (by kernel_rfl)) (by decide) (fun K hK => ?_); refine goes_ Tryz.func67 (by kernel_rfl) rfl #[.slice A1001_0 ((rd_T56 l0 x10_1).f0).length c1001_0] (by rfl) rfl rfl ag_ ?_; (with_reducible refine (impl_GoodLabels.calls k1 _ _ ((rd_T56 l0 x10_1).f0) true _ ?side1 ?side2 A6.out).mono ?_); (case side1 => exact cc_ (Kd.C_below HR1001_0.out HB.out)); (case side2 => exact HC1001_0.out); rintro e w51 ⟨rfl, hb⟩; refine ⟨_, rfl, ?_⟩; have n0_ := am_ (blk_below (g := gb1002) (vk_ BK1002) hb); have n1_ := am_ (below_step bg_ hb); clear BK1002; clear HB; have BK1002 := n0_; have HB := n1_; clear n0_ n1_; (try clear hb); (try clear hb2); (try clear hk); (try clear hi); refine hK.out _ _ ⟨(blk_cell BK1002.out 0).trans rfl, (blk_cell BK1002.out 1).trans rfl⟩ (fun hHeld => ?_); clear hK K; refine norm_ (a' := ?_) ?_ ?_; rotate_left
          ·show Act.put _ (some 17) _ = _; simp only [Act.put, List.setIfInBounds_toArray, List.set_cons_zero, List.set_cons_succ, i64_w, i32_w]; rfl
          refine pz_ 3 18 15 ?_; refine pz_ 4 19 31 ?_; refine pz_ 5 20 63 ?_; refine tz_ 6 21 127 ?_; refine one_ (i := 7) (N := some 22) (bz 38 255) rfl rfl (one_of HT_.out (by kernel_rfl)) (by decide) (fun K hK => ?_); refine goes_ Tryz.func68 (by kernel_rfl) rfl #[.slice A1001_0 ((rd_T56 l0 x10_1).f0).length c1001_0, .string (⟨#[95, 110, 97, 109, 101]⟩ : ByteArray)] (by rfl) rfl rfl ag_ ?_; (with_reducible refine (impl_valueOf.calls k1 _ _ ((rd_T56 l0 x10_1).f0) (⟨#[95, 110, 97, 109, 101]⟩ : ByteArray) t1004 _ ?side1 ?side2 A8.out).mono ?_); (case side1 => exact cc_ (Kd.C_below HR1001_0.out HB.out)); (case side2 => exact HC1001_0.out); rintro e w52 ⟨rfl, hb⟩; refine ⟨_, rfl, ?_⟩; have n0_ := am_ (blk_below (g := gb1002) (vk_ BK1002) hb); have n1_ := am_ (below_step bg_ hb); clear BK1002; clear HB; have BK1002 := n0_; have HB := n1_; clear n0_ n1_; (try clear hb); (try clear hb2); (try clear hk); (try clear hi); refine hK.out _ _ ⟨(blk_cell BK1002.out 0).trans rfl, (blk_cell BK1002.out 1).trans rfl⟩ (fun hHeld => ?_); clear hK K; refine norm_ (a' := ?_) ?_ ?_; rotate_left
          ·show Act.put _ (some 22) _ = _; simp only [Act.put, List.setIfInBounds_toArray, List.set_cons_zero, List.set_cons_succ, i64_w, i32_w]; rfl
          refine pz_ 8 23 511 ?_; refine pz_ 9 24 1023 ?_; refine pz_ 10 25 2047 ?_; refine pz_ 11 26 4095 ?_; refine tz_ 12 27 8191 ?_; refine pz_ 13 28 16383 ?_; refine pz_ 14 29 32767 ?_; refine pz_ 15 30 65535 ?_; refine pz_ 16 31 131071 ?_; refine pz_ 17 32 262143 ?_; refine tz_ 18 33 524287 ?_; refine one_ (i := 19) (N := some 34) (bz 38 1048575) rfl rfl (one_of HT_.out (by kernel_rfl)) (by decide) (fun K hK => ?_); refine goes_ Tryz.func69 (by kernel_rfl) rfl #[.slice A1001_1 ((rd_T56 l0 x10_1).f1).length c1001_1] (by rfl) rfl rfl ag_ ?_; (with_reducible refine (impl_GoodSamples.calls k1 _ _ ((rd_T56 l0 x10_1).f1) true _ ?side1 ?side2 A23.out).mono ?_); (case side1 => exact cc_ (Kd.C_below HR1001_1.out HB.out)); (case side2 => exact HC1001_1.out); rintro e w53 ⟨rfl, hb⟩; refine ⟨_, rfl, ?_⟩; have n0_ := am_ (blk_below (g := gb1002) (vk_ BK1002) hb); have n1_ := am_ (below_step bg_ hb); clear BK1002; clear HB; have BK1002 := n0_; have HB := n1_; clear n0_ n1_; (try clear hb); (try clear hb2); (try clear hk); (try clear hi); refine hK.out _ _ ⟨(blk_cell BK1002.out 0).trans rfl, (blk_cell BK1002.out 1).trans rfl⟩ (fun hHeld => ?_); clear hK K; refine norm_ (a' := ?_) ?_ ?_; rotate_left
          ·show Act.put _ (some 34) _ = _; simp only [Act.put, List.setIfInBounds_toArray, List.set_cons_zero, List.set_cons_succ, i64_w, i32_w]; rfl
          refine pz_ 20 35 2097151 ?_; refine pz_ 21 36 4194303 ?_; refine pz_ 22 37 8388607 ?_; refine pz_ 23 38 16777215 ?_; refine pz_ 24 39 33554431 ?_; refine pz_ 25 40 67108863 ?_; refine uz_ 26 41 134217727 ?_; refine uz_ 27 42 268435455 ?_; refine uz_ 28 43 536870911 ?_; refine uz_ 29 44 1073741823 ?_; refine uz_ 30 45 2147483647 ?_; refine uz_ 31 46 4294967295 ?_; refine uz_ 32 47 8589934591 ?_; refine uz_ 33 48 17179869183 ?_; refine uz_ 34 49 34359738367 ?_; refine uz_ 35 50 68719476735 ?_; refine pz_ 36 51 137438953471 ?_; refine pz_ 37 52 274877906943 ?_; refine done_ (done_of HT_.out (by kernel_rfl)) ?_; (try go_wp2); go_roundg k1
          case measure => have := HK1.out; omega
          case rel => exact ⟨(wrap64 (x10_1 + 1)), rs_, H', ⟨by have := HK1.out; omega⟩, ⟨bg_⟩⟩
        ·replace c24 := Bool.eq_false_iff.mpr c24; subst c24; replace H := if_ H; obtain rfl := si_ H; have p1001 : 0 ≤ (x10_1 : Int) := od_; have q1001 : x10_1 < (l0.length : Int) := od_; obtain ⟨ad1001, A1001_0, c1001_0, A1001_1, c1001_1, e1001, hx1001_0, hx1001_1, hl1001_0, hi1001_0, hl1001_1, hi1001_1⟩ := at_T56 HR0.out x10_1 p1001 q1001
         cases e1001
         replace hx1001_0 := kp_ HB hx1001_0; replace hx1001_1 := kp_ HB hx1001_1; have HR1001_0 := am_ hi1001_0; have HC1001_0 := am_ hl1001_0; clear hi1001_0 hl1001_0; have HR1001_1 := am_ hi1001_1; have HC1001_1 := am_ hl1001_1; clear hi1001_1 hl1001_1; replace p1001 := eq_true p1001; replace q1001 := eq_true q1001; (try go_wp2_with (first | ((with_reducible refine gate_dst (N := 4) rfl ?_); (try (refine gate_guard (by rfl) ?_; dsimp only)); refine bx_ 4 #[.slice none 0 0, .slice none 0 0] 56 ?_; intro gb1002 hg w54 hbox hb; have BK1002 := am_ (hbox); have GW1002 := am_ (gs_ hg : w.heap.size ≤ gb1002); replace HB := am_ (below_step bl_ hb); have GE1002 := GW1002; clear hb hbox hg; have hz55 := bk2_ BK1002))); have n0_ : Aside0 (((w54.setCell ⟨gb1002, 0, none⟩ (.slice A1001_0 ((rd_T56 l0 x10_1).f0).length c1001_0)).setCell ⟨gb1002, 1, none⟩ (.slice A1001_1 ((rd_T56 l0 x10_1).f1).length c1001_1)).heap[gb1002]? = some (.cells #[.slice A1001_0 ((rd_T56 l0 x10_1).f0).length c1001_0, .slice A1001_1 ((rd_T56 l0 x10_1).f1).length c1001_1] 56 (0, 0))) := ⟨by (with_reducible repeat (first | refine blk_drewN ?_ _ | refine blk_drew ?_ | refine blk_alloc ?_ _)); refine blk_put (cs := #[.slice A1001_0 ((rd_T56 l0 x10_1).f0).length c1001_0, .slice none 0 0]) ?_ 1 _ rfl; (with_reducible repeat (first | refine blk_drewN ?_ _ | refine blk_drew ?_ | refine blk_alloc ?_ _)); refine blk_put (cs := #[.slice none 0 0, .slice none 0 0]) ?_ 0 _ rfl; (with_reducible repeat (first | refine blk_drewN ?_ _ | refine blk_drew ?_ | refine blk_alloc ?_ _)); exact BK1002.out⟩; have n1_ : Aside0 (Below w.heap.size w ((w54.setCell ⟨gb1002, 0, none⟩ (.slice A1001_0 ((rd_T56 l0 x10_1).f0).length c1001_0)).setCell ⟨gb1002, 1, none⟩ (.slice A1001_1 ((rd_T56 l0 x10_1).f1).length c1001_1))) := ⟨bg_⟩; (try clear BK1002); (try clear HB); generalize ((w54.setCell ⟨gb1002, 0, none⟩ (.slice A1001_0 ((rd_T56 l0 x10_1).f0).length c1001_0)).setCell ⟨gb1002, 1, none⟩ (.slice A1001_1 ((rd_T56 l0 x10_1).f1).length c1001_1)) = w56 at n0_ n1_ ⊢; have BK1002 := n0_; have HB := n1_; clear n0_ n1_; have n0_ := am_ (blk_drew BK1002.out); have n1_ := am_ (below_drew1 HB.out); clear BK1002; clear HB; have BK1002 := n0_; have HB := n1_; clear n0_ n1_; refine start_ (n := 38) (S := fun w' => w'.cell? ⟨gb1002, 0, none⟩ = some (.slice A1001_0 ((rd_T56 l0 x10_1).f0).length c1001_0) ∧ w'.cell? ⟨gb1002, 1, none⟩ = some (.slice A1001_1 ((rd_T56 l0 x10_1).f1).length c1001_1)) (ds := []) (bz 38 0) (by kernel_rfl) rfl rfl ⟨(blk_cell BK1002.out 0).trans rfl, (blk_cell BK1002.out 1).trans rfl⟩ (fun hHeld => ?_); refine with_tabW impl_GoodSeries.tab6 impl_GoodSeries.bits6 (fun HT_ HW_ => ?_); generalize w56.drew = w57 at BK1002 HB hHeld ⊢; refine pz_ 0 15 1 ?_; refine tz_ 1 16 3 ?_; refine one_ (i := 2) (N := some 17) (bz 38 7) rfl rfl (one_of HT_.out (by kernel_rfl)) (by decide) (fun K hK => ?_); refine goes_ Tryz.func67 (by kernel_rfl) rfl #[.slice A1001_0 ((rd_T56 l0 x10_1).f0).length c1001_0] (by rfl) rfl rfl ag_ ?_; (with_reducible refine (impl_GoodLabels.calls k1 _ _ ((rd_T56 l0 x10_1).f0) true _ ?side1 ?side2 A6.out).mono ?_); (case side1 => exact cc_ (Kd.C_below HR1001_0.out HB.out)); (case side2 => exact HC1001_0.out); rintro e w58 ⟨rfl, hb⟩; refine ⟨_, rfl, ?_⟩; have n0_ := am_ (blk_below (g := gb1002) (vk_ BK1002) hb); have n1_ := am_ (below_step bg_ hb); clear BK1002; clear HB; have BK1002 := n0_; have HB := n1_; clear n0_ n1_; (try clear hb); (try clear hb2); (try clear hk); (try clear hi); refine hK.out _ _ ⟨(blk_cell BK1002.out 0).trans rfl, (blk_cell BK1002.out 1).trans rfl⟩ (fun hHeld => ?_); clear hK K; refine norm_ (a' := ?_) ?_ ?_; rotate_left
         ·show Act.put _ (some 17) _ = _; simp only [Act.put, List.setIfInBounds_toArray, List.set_cons_zero, List.set_cons_succ, i64_w, i32_w]; rfl
         refine pz_ 3 18 15 ?_; refine pz_ 4 19 31 ?_; refine pz_ 5 20 63 ?_; refine tz_ 6 21 127 ?_; refine one_ (i := 7) (N := some 22) (bz 38 255) rfl rfl (one_of HT_.out (by kernel_rfl)) (by decide) (fun K hK => ?_); refine goes_ Tryz.func68 (by kernel_rfl) rfl #[.slice A1001_0 ((rd_T56 l0 x10_1).f0).length c1001_0, .string (⟨#[95, 110, 97, 109, 101]⟩ : ByteArray)] (by rfl) rfl rfl ag_ ?_; (with_reducible refine (impl_valueOf.calls k1 _ _ ((rd_T56 l0 x10_1).f0) (⟨#[95, 110, 97, 109, 101]⟩ : ByteArray) t1004 _ ?side1 ?side2 A8.out).mono ?_); (case side1 => exact cc_ (Kd.C_below HR1001_0.out HB.out)); (case side2 => exact HC1001_0.out); rintro e w59 ⟨rfl, hb⟩; refine ⟨_, rfl, ?_⟩; have n0_ := am_ (blk_below (g := gb1002) (vk_ BK1002) hb); have n1_ := am_ (below_step bg_ hb); clear BK1002; clear HB; have BK1002 := n0_; have HB := n1_; clear n0_ n1_; (try clear hb); (try clear hb2); (try clear hk); (try clear hi); refine hK.out _ _ ⟨(blk_cell BK1002.out 0).trans rfl, (blk_cell BK1002.out 1).trans rfl⟩ (fun hHeld => ?_); clear hK K; refine norm_ (a' := ?_) ?_ ?_; rotate_left
         ·show Act.put _ (some 22) _ = _; simp only [Act.put, List.setIfInBounds_toArray, List.set_cons_zero, List.set_cons_succ, i64_w, i32_w]; rfl
         refine pz_ 8 23 511 ?_; refine pz_ 9 24 1023 ?_; refine pz_ 10 25 2047 ?_; refine pz_ 11 26 4095 ?_; refine tz_ 12 27 8191 ?_; refine pz_ 13 28 16383 ?_; refine pz_ 14 29 32767 ?_; refine pz_ 15 30 65535 ?_; refine pz_ 16 31 131071 ?_; refine pz_ 17 32 262143 ?_; refine tz_ 18 33 524287 ?_; refine one_ (i := 19) (N := some 34) (bz 38 1048575) rfl rfl (one_of HT_.out (by kernel_rfl)) (by decide) (fun K hK => ?_); refine goes_ Tryz.func69 (by kernel_rfl) rfl #[.slice A1001_1 ((rd_T56 l0 x10_1).f1).length c1001_1] (by rfl) rfl rfl ag_ ?_; (with_reducible refine (impl_GoodSamples.calls k1 _ _ ((rd_T56 l0 x10_1).f1) false _ ?side1 ?side2 A23.out).mono ?_); (case side1 => exact cc_ (Kd.C_below HR1001_1.out HB.out)); (case side2 => exact HC1001_1.out); rintro e w60 ⟨rfl, hb⟩; refine ⟨_, rfl, ?_⟩; have n0_ := am_ (blk_below (g := gb1002) (vk_ BK1002) hb); have n1_ := am_ (below_step bg_ hb); clear BK1002; clear HB; have BK1002 := n0_; have HB := n1_; clear n0_ n1_; (try clear hb); (try clear hb2); (try clear hk); (try clear hi); refine hK.out _ _ ⟨(blk_cell BK1002.out 0).trans rfl, (blk_cell BK1002.out 1).trans rfl⟩ (fun hHeld => ?_); clear hK K; refine norm_ (a' := ?_) ?_ ?_; rotate_left
         ·show Act.put _ (some 34) _ = _; simp only [Act.put, List.setIfInBounds_toArray, List.set_cons_zero, List.set_cons_succ, i64_w, i32_w]; rfl
         refine pz_ 20 35 2097151 ?_; refine pz_ 21 36 4194303 ?_; refine pz_ 22 37 8388607 ?_; refine uz_ 23 38 16777215 ?_; refine uz_ 24 39 33554431 ?_; refine uz_ 25 40 67108863 ?_; refine uz_ 26 41 134217727 ?_; refine uz_ 27 42 268435455 ?_; refine uz_ 28 43 536870911 ?_; refine uz_ 29 44 1073741823 ?_; refine uz_ 30 45 2147483647 ?_; refine uz_ 31 46 4294967295 ?_; refine uz_ 32 47 8589934591 ?_; refine uz_ 33 48 17179869183 ?_; refine uz_ 34 49 34359738367 ?_; refine uz_ 35 50 68719476735 ?_; refine uz_ 36 51 137438953471 ?_; refine pz_ 37 52 274877906943 ?_; refine done_ (done_of HT_.out (by kernel_rfl)) ?_; (try go_wp2); go_ret; exact ⟨rf_, bg_⟩
     ·replace c7 := Bool.eq_false_iff.mpr c7; subst c7; replace H := if_ H; obtain rfl := si_ H; have p1001 : 0 ≤ (x10_1 : Int) := od_; have q1001 : x10_1 < (l0.length : Int) := od_; obtain ⟨ad1001, A1001_0, c1001_0, A1001_1, c1001_1, e1001, hx1001_0, hx1001_1, hl1001_0, hi1001_0, hl1001_1, hi1001_1⟩ := at_T56 HR0.out x10_1 p1001 q1001
      cases e1001
      replace hx1001_0 := kp_ HB hx1001_0; replace hx1001_1 := kp_ HB hx1001_1; have HR1001_0 := am_ hi1001_0; have HC1001_0 := am_ hl1001_0; clear hi1001_0 hl1001_0; have HR1001_1 := am_ hi1001_1; have HC1001_1 := am_ hl1001_1; clear hi1001_1 hl1001_1; replace p1001 := eq_true p1001; replace q1001 := eq_true q1001; (try go_wp2_with (first | ((with_reducible refine gate_dst (N := 4) rfl ?_); (try (refine gate_guard (by rfl) ?_; dsimp only)); refine bx_ 4 #[.slice none 0 0, .slice none 0 0] 56 ?_; intro gb1002 hg w61 hbox hb; have BK1002 := am_ (hbox); have GW1002 := am_ (gs_ hg : w.heap.size ≤ gb1002); replace HB := am_ (below_step bl_ hb); have GE1002 := GW1002; clear hb hbox hg; have hz62 := bk2_ BK1002))); have n0_ : Aside0 (((w61.setCell ⟨gb1002, 0, none⟩ (.slice A1001_0 ((rd_T56 l0 x10_1).f0).length c1001_0)).setCell ⟨gb1002, 1, none⟩ (.slice A1001_1 ((rd_T56 l0 x10_1).f1).length c1001_1)).heap[gb1002]? = some (.cells #[.slice A1001_0 ((rd_T56 l0 x10_1).f0).length c1001_0, .slice A1001_1 ((rd_T56 l0 x10_1).f1).length c1001_1] 56 (0, 0))) := ⟨by (with_reducible repeat (first | refine blk_drewN ?_ _ | refine blk_drew ?_ | refine blk_alloc ?_ _)); refine blk_put (cs := #[.slice A1001_0 ((rd_T56 l0 x10_1).f0).length c1001_0, .slice none 0 0]) ?_ 1 _ rfl; (with_reducible repeat (first | refine blk_drewN ?_ _ | refine blk_drew ?_ | refine blk_alloc ?_ _)); refine blk_put (cs := #[.slice none 0 0, .slice none 0 0]) ?_ 0 _ rfl; (with_reducible repeat (first | refine blk_drewN ?_ _ | refine blk_drew ?_ | refine blk_alloc ?_ _)); exact BK1002.out⟩; have n1_ : Aside0 (Below w.heap.size w ((w61.setCell ⟨gb1002, 0, none⟩ (.slice A1001_0 ((rd_T56 l0 x10_1).f0).length c1001_0)).setCell ⟨gb1002, 1, none⟩ (.slice A1001_1 ((rd_T56 l0 x10_1).f1).length c1001_1))) := ⟨bg_⟩; (try clear BK1002); (try clear HB); generalize ((w61.setCell ⟨gb1002, 0, none⟩ (.slice A1001_0 ((rd_T56 l0 x10_1).f0).length c1001_0)).setCell ⟨gb1002, 1, none⟩ (.slice A1001_1 ((rd_T56 l0 x10_1).f1).length c1001_1)) = w63 at n0_ n1_ ⊢; have BK1002 := n0_; have HB := n1_; clear n0_ n1_; have n0_ := am_ (blk_drew BK1002.out); have n1_ := am_ (below_drew1 HB.out); clear BK1002; clear HB; have BK1002 := n0_; have HB := n1_; clear n0_ n1_; refine start_ (n := 38) (S := fun w' => w'.cell? ⟨gb1002, 0, none⟩ = some (.slice A1001_0 ((rd_T56 l0 x10_1).f0).length c1001_0) ∧ w'.cell? ⟨gb1002, 1, none⟩ = some (.slice A1001_1 ((rd_T56 l0 x10_1).f1).length c1001_1)) (ds := []) (bz 38 0) (by kernel_rfl) rfl rfl ⟨(blk_cell BK1002.out 0).trans rfl, (blk_cell BK1002.out 1).trans rfl⟩ (fun hHeld => ?_); refine with_tabW impl_GoodSeries.tab6 impl_GoodSeries.bits6 (fun HT_ HW_ => ?_); generalize w63.drew = w64 at BK1002 HB hHeld ⊢; refine pz_ 0 15 1 ?_; refine tz_ 1 16 3 ?_; refine one_ (i := 2) (N := some 17) (bz 38 7) rfl rfl (one_of HT_.out (by kernel_rfl)) (by decide) (fun K hK => ?_); refine goes_ Tryz.func67 (by kernel_rfl) rfl #[.slice A1001_0 ((rd_T56 l0 x10_1).f0).length c1001_0] (by rfl) rfl rfl ag_ ?_; (with_reducible refine (impl_GoodLabels.calls k1 _ _ ((rd_T56 l0 x10_1).f0) false _ ?side1 ?side2 A6.out).mono ?_); (case side1 => exact cc_ (Kd.C_below HR1001_0.out HB.out)); (case side2 => exact HC1001_0.out); rintro e w65 ⟨rfl, hb⟩; refine ⟨_, rfl, ?_⟩; have n0_ := am_ (blk_below (g := gb1002) (vk_ BK1002) hb); have n1_ := am_ (below_step bg_ hb); clear BK1002; clear HB; have BK1002 := n0_; have HB := n1_; clear n0_ n1_; (try clear hb); (try clear hb2); (try clear hk); (try clear hi); refine hK.out _ _ ⟨(blk_cell BK1002.out 0).trans rfl, (blk_cell BK1002.out 1).trans rfl⟩ (fun hHeld => ?_); clear hK K; refine norm_ (a' := ?_) ?_ ?_; rotate_left
      ·show Act.put _ (some 17) _ = _; simp only [Act.put, List.setIfInBounds_toArray, List.set_cons_zero, List.set_cons_succ, i64_w, i32_w]; rfl
      refine pz_ 3 18 15 ?_; refine pz_ 4 19 31 ?_; refine uz_ 5 20 63 ?_; refine uz_ 6 21 127 ?_; refine uz_ 7 22 255 ?_; refine uz_ 8 23 511 ?_; refine pz_ 9 24 1023 ?_; refine pz_ 10 25 2047 ?_; refine uz_ 11 26 4095 ?_; refine uz_ 12 27 8191 ?_; refine uz_ 13 28 16383 ?_; refine uz_ 14 29 32767 ?_; refine pz_ 15 30 65535 ?_; refine pz_ 16 31 131071 ?_; refine uz_ 17 32 262143 ?_; refine uz_ 18 33 524287 ?_; refine uz_ 19 34 1048575 ?_; refine uz_ 20 35 2097151 ?_; refine pz_ 21 36 4194303 ?_; refine pz_ 22 37 8388607 ?_; refine uz_ 23 38 16777215 ?_; refine uz_ 24 39 33554431 ?_; refine uz_ 25 40 67108863 ?_; refine uz_ 26 41 134217727 ?_; refine uz_ 27 42 268435455 ?_; refine uz_ 28 43 536870911 ?_; refine uz_ 29 44 1073741823 ?_; refine uz_ 30 45 2147483647 ?_; refine uz_ 31 46 4294967295 ?_; refine uz_ 32 47 8589934591 ?_; refine uz_ 33 48 17179869183 ?_; refine uz_ 34 49 34359738367 ?_; refine uz_ 35 50 68719476735 ?_; refine uz_ 36 51 137438953471 ?_; refine pz_ 37 52 274877906943 ?_; refine done_ (done_of HT_.out (by kernel_rfl)) ?_; (try go_wp2); go_ret; exact ⟨rf_, bg_⟩
    ·rw [if_neg c3] at H; have c3b0 := decide_eq_false c3; clear c3; obtain rfl := si_ H; go_wp2; go_ret; exact ⟨rf_, bl_⟩

/-! ### impl_GoodHead: function 24 -/
mutual
def impl_GoodHead.j0 : Nat → Bool → Int → Int → Int → List (S56) → Option (Bool)
 | 0, _, _, _, _, _ => none
 | k + 1, x35, x1002000, x1002001, x1002002, x1002003 => if x35 = true then (some false) else (impl_GoodHead.l0 k x1002003 (x1002003.length : Int) 0 x1002000 x1002001 x1002002 x1002003)
def impl_GoodHead.l0 : Nat → List (S56) → Int → Int → Int → Int → Int → List (S56) → Option (Bool)
 | 0, _, _, _, _, _, _, _ => none
 | k + 1, x37, x38, x39, x1002000, x1002001, x1002002, x1002003 => if x39 < x38 then (if 0 ≤ x39 then (if x39 < (x37.length : Int) then (if 0 ≤ (wrap64 ((((rd_T56 x37 x39).f1).length : Int) - 1)) then (if (wrap64 ((((rd_T56 x37 x39).f1).length : Int) - 1)) < (((rd_T56 x37 x39).f1).length : Int) then (if ((rd_T69 ((rd_T56 x37 x39).f1) (wrap64 ((((rd_T56 x37 x39).f1).length : Int) - 1))).f0) > x1002002 then (some false) else (impl_GoodHead.l0 k x37 x38 (wrap64 (x39 + 1)) x1002000 x1002001 x1002002 x1002003)) else (none)) else (none)) else (none)) else (none)) else (some true)
end
def impl_GoodHead.f (k : Nat) (a0_0 : Int) (a0_1 : Int) (a0_2 : Int) (l0_3 : List (S56)) : Option (Bool) := (impl_goodWindow.f a0_0 a0_1).bind fun t1002 => (if t1002 = true then ((impl_GoodSeries.f k l0_3).bind fun t1003 => (if t1003 = true then (if (l0_3.length : Int) > a0_1 then (impl_GoodHead.j0 k true a0_0 a0_1 a0_2 l0_3) else (if a0_2 = (-1) then (impl_GoodHead.j0 k false a0_0 a0_1 a0_2 l0_3) else ((impl_isTime.f a0_2).bind fun t1004 => (impl_GoodHead.j0 k (!t1004) a0_0 a0_1 a0_2 l0_3)))) else (impl_GoodHead.j0 k true a0_0 a0_1 a0_2 l0_3))) else (impl_GoodHead.j0 k true a0_0 a0_1 a0_2 l0_3))
theorem impl_GoodHead.mono_l : ∀ k, (∀ y0 y1 y2 y3 y4, LeO (impl_GoodHead.j0 k y0 y1 y2 y3 y4) (impl_GoodHead.j0 (k + 1) y0 y1 y2 y3 y4)) ∧ (∀ y0 y1 y2 y3 y4 y5 y6, LeO (impl_GoodHead.l0 k y0 y1 y2 y3 y4 y5 y6) (impl_GoodHead.l0 (k + 1) y0 y1 y2 y3 y4 y5 y6))
 | 0 => ⟨fun _ _ _ _ _ r h => by simp [impl_GoodHead.j0] at h, fun _ _ _ _ _ _ _ r h => by simp [impl_GoodHead.l0] at h⟩
 | k + 1 => by
  obtain ⟨ih0, ih1⟩ := impl_GoodHead.mono_l k
  refine ⟨?_, ?_⟩
  ·intro y0 y1 y2 y3 y4
   unfold impl_GoodHead.j0
   repeat' with_reducible first | apply ih0 | apply ih1 | apply impl_GoodSeries.mono | apply LeO.refl | apply LeO.none | apply LeO.ite | refine LeO.bind ?_ (fun _ => ?_)
  ·intro y0 y1 y2 y3 y4 y5 y6
   unfold impl_GoodHead.l0
   repeat' with_reducible first | apply ih0 | apply ih1 | apply impl_GoodSeries.mono | apply LeO.refl | apply LeO.none | apply LeO.ite | refine LeO.bind ?_ (fun _ => ?_)
theorem impl_GoodHead.mono : ∀ a0 a1 a2 a3 k, LeO (impl_GoodHead.f k a0 a1 a2 a3) (impl_GoodHead.f (k + 1) a0 a1 a2 a3) := by
 intro a0 a1 a2 a3 k
 obtain ⟨ih0, ih1⟩ := impl_GoodHead.mono_l k
 unfold impl_GoodHead.f
 repeat' with_reducible first | apply ih0 | apply ih1 | apply impl_GoodSeries.mono | apply LeO.refl | apply LeO.none | apply LeO.ite | refine LeO.bind ?_ (fun _ => ?_)
set_option maxHeartbeats 8000000 in
set_option maxRecDepth 100000 in
theorem impl_GoodHead.calls (k : Nat) (a0_0 : Int) (a0_1 : Int) (a0_2 : Int) (A0_3 : Option Addr) (c0_3 : Nat) (l0_3 : List (S56)) (r : Bool) (w : World) (hr0_3 : Kd.C k56 w A0_3 l0_3.length l0_3) (hc0_3 : l0_3.length ≤ c0_3) (h : impl_GoodHead.f k a0_0 a0_1 a0_2 l0_3 = some r) :
  Calls Tryz.prog 24 #[.agg #[.int .i64 a0_0, .int .i64 a0_1, .int .i64 a0_2, .slice A0_3 l0_3.length c0_3]] w fun e w' => e = .returned (.bool r) ∧ Below w.heap.size w w' := by
 have hu31 := Tryz.underlying31; have hu56 := Tryz.underlying56; have HR0_3 := am_ hr0_3; have HC0_3 := am_ hc0_3; clear hr0_3 hc0_3; have HB := am_ (Below.refl w.heap.size w); have H := h; clear h; unfold impl_GoodHead.f at H; have HC2 := am_ H; clear H; go_enter Tryz.func24, Tryz.ntmps24; go_upto_region 1 with (first | ((with_reducible refine gate_dst (N := 1) rfl ?_); (try (refine gate_guard (by rfl) ?_; dsimp only)); refine bx_ 1 #[.int .i64 a0_0, .int .i64 a0_1, .int .i64 a0_2, .slice A0_3 l0_3.length c0_3] 31 ?_; intro gb1001 hg w3 hbox hb; have BK1001 := am_ (hbox); have GW1001 := am_ (gs_ hg : w.heap.size ≤ gb1001); replace HB := am_ (below_step bl_ hb); have GE1001 := GW1001; clear hb hbox hg)); (repeat (go_quiet (first | ((with_reducible refine gate_dst (N := 1) rfl ?_); (try (refine gate_guard (by rfl) ?_; dsimp only)); refine bx_ 1 #[.int .i64 a0_0, .int .i64 a0_1, .int .i64 a0_2, .slice A0_3 l0_3.length c0_3] 31 ?_; intro gb1001 hg w3 hbox hb; have BK1001 := am_ (hbox); have GW1001 := am_ (gs_ hg : w.heap.size ≤ gb1001); replace HB := am_ (below_step bl_ hb); have GE1001 := GW1001; clear hb hbox hg)); go_upto_region 1 with (first | ((with_reducible refine gate_dst (N := 1) rfl ?_); (try (refine gate_guard (by rfl) ?_; dsimp only)); refine bx_ 1 #[.int .i64 a0_0, .int .i64 a0_1, .int .i64 a0_2, .slice A0_3 l0_3.length c0_3] 31 ?_; intro gb1001 hg w3 hbox hb; have BK1001 := am_ (hbox); have GW1001 := am_ (gs_ hg : w.heap.size ≤ gb1001); replace HB := am_ (below_step bl_ hb); have GE1001 := GW1001; clear hb hbox hg)))); (try simp only [Act.put, List.setIfInBounds_toArray, List.set_cons_zero, List.set_cons_succ])
 go_cut [35] (fun v35 wc => ∃ (kq : Nat) (x35_1 : Bool), v35 = .bool x35_1 ∧ Aside0 (impl_GoodHead.j0 kq x35_1 a0_0 a0_1 a0_2 l0_3 = some r) ∧ Aside0 (kq ≤ k) ∧ Aside0 (wc.heap[gb1001]? = some (.cells #[.int .i64 a0_0, .int .i64 a0_1, .int .i64 a0_2, (.slice A0_3 l0_3.length c0_3)] 31 (0, 0))) ∧ Aside0 (Below w.heap.size w wc))
 case first =>
  have H := HC2.out; clear HC2; obtain ⟨t1002, A4, H⟩ := bs_ H
  by_cases c5 : t1002 = true
  ·subst c5; replace H := it_ H; obtain ⟨t1003, A6, H⟩ := bs_ H
   by_cases c7 : t1003 = true
   ·subst c7; replace H := it_ H
    by_cases c8 : (l0_3.length : Int) > a0_1
    ·rw [if_pos c8] at H; have c8b0 := dg_ c8; clear c8; (first | rw [c8b0] | (simp only [i64_w, i32_w]; rw [c8b0]) | skip); have H' := am_ H; clear H; have hz9 := bk4_ BK1001; go_wp2_with (first | (go_at_call 44; (with_reducible refine (impl_goodWindow.calls a0_0 a0_1 true _ A4.out).mono ?_); rintro e w' ⟨rfl, ⟨nd, rfl⟩⟩; (try exact dd_)) | (go_at_call 45; (with_reducible refine (impl_GoodSeries.calls k _ _ l0_3 true _ ?side1 ?side2 A6.out).mono ?_); (case side1 => exact cc_ (Kd.C_below HR0_3.out bg_)); (case side2 => exact HC0_3.out); rintro e w10 ⟨rfl, hb⟩; replace BK1001 := vb_ BK1001 hb; replace HB := am_ (below_step bg_ hb); (try clear hb); have hz11 := bk4_ BK1001)); (repeat (go_quiet (first | (go_at_call 44; (with_reducible refine (impl_goodWindow.calls a0_0 a0_1 true _ A4.out).mono ?_); rintro e w' ⟨rfl, ⟨nd, rfl⟩⟩; (try exact dd_)) | (go_at_call 45; (with_reducible refine (impl_GoodSeries.calls k _ _ l0_3 true _ ?side1 ?side2 A6.out).mono ?_); (case side1 => exact cc_ (Kd.C_below HR0_3.out bg_)); (case side2 => exact HC0_3.out); rintro e w10 ⟨rfl, hb⟩; replace BK1001 := vb_ BK1001 hb; replace HB := am_ (below_step bg_ hb); (try clear hb); have hz11 := bk4_ BK1001)); try go_wp2)); go_meet
     case rel => exact ⟨_, (true), rs_, H', ⟨by first | omega | exact Nat.le_refl _⟩, ⟨vk_ BK1001⟩, ⟨bg_⟩⟩
    ·rw [if_neg c8] at H; have c8b0 := df_ c8; clear c8; (first | rw [c8b0] | (simp only [i64_w, i32_w]; rw [c8b0]) | skip)
     by_cases c12 : a0_2 = (-1)
     ·rw [if_pos c12] at H; have c12b0 := eb_ c12; have c12b1 := en_ c12; clear c12; have H' := am_ H; clear H; have hz13 := bk4_ BK1001; go_wp2_with (first | (go_at_call 44; (with_reducible refine (impl_goodWindow.calls a0_0 a0_1 true _ A4.out).mono ?_); rintro e w' ⟨rfl, ⟨nd, rfl⟩⟩; (try exact dd_)) | (go_at_call 45; (with_reducible refine (impl_GoodSeries.calls k _ _ l0_3 true _ ?side1 ?side2 A6.out).mono ?_); (case side1 => exact cc_ (Kd.C_below HR0_3.out bg_)); (case side2 => exact HC0_3.out); rintro e w14 ⟨rfl, hb⟩; replace BK1001 := vb_ BK1001 hb; replace HB := am_ (below_step bg_ hb); (try clear hb); have hz15 := bk4_ BK1001)); (repeat (go_quiet (first | (go_at_call 44; (with_reducible refine (impl_goodWindow.calls a0_0 a0_1 true _ A4.out).mono ?_); rintro e w' ⟨rfl, ⟨nd, rfl⟩⟩; (try exact dd_)) | (go_at_call 45; (with_reducible refine (impl_GoodSeries.calls k _ _ l0_3 true _ ?side1 ?side2 A6.out).mono ?_); (case side1 => exact cc_ (Kd.C_below HR0_3.out bg_)); (case side2 => exact HC0_3.out); rintro e w14 ⟨rfl, hb⟩; replace BK1001 := vb_ BK1001 hb; replace HB := am_ (below_step bg_ hb); (try clear hb); have hz15 := bk4_ BK1001)); try go_wp2)); go_meet
      case rel => exact ⟨_, (false), rs_, H', ⟨by first | omega | exact Nat.le_refl _⟩, ⟨vk_ BK1001⟩, ⟨bg_⟩⟩
     ·rw [if_neg c12] at H; have c12b0 := nb_ c12; have c12b1 := nn_ c12; obtain ⟨t1004, A16, H⟩ := bs_ H; have H' := am_ H; clear H; have hz17 := bk4_ BK1001; go_wp2_with (first | (go_at_call 44; (with_reducible refine (impl_goodWindow.calls a0_0 a0_1 true _ A4.out).mono ?_); rintro e w' ⟨rfl, ⟨nd, rfl⟩⟩; (try exact dd_)) | (go_at_call 45; (with_reducible refine (impl_GoodSeries.calls k _ _ l0_3 true _ ?side1 ?side2 A6.out).mono ?_); (case side1 => exact cc_ (Kd.C_below HR0_3.out bg_)); (case side2 => exact HC0_3.out); rintro e w18 ⟨rfl, hb⟩; replace BK1001 := vb_ BK1001 hb; replace HB := am_ (below_step bg_ hb); (try clear hb); have hz19 := bk4_ BK1001) | (go_at_call 46; (with_reducible refine (impl_isTime.calls a0_2 t1004 _ A16.out).mono ?_); rintro e w' ⟨rfl, ⟨nd, rfl⟩⟩; (try exact dd_))); (repeat (go_quiet (first | (go_at_call 44; (with_reducible refine (impl_goodWindow.calls a0_0 a0_1 true _ A4.out).mono ?_); rintro e w' ⟨rfl, ⟨nd, rfl⟩⟩; (try exact dd_)) | (go_at_call 45; (with_reducible refine (impl_GoodSeries.calls k _ _ l0_3 true _ ?side1 ?side2 A6.out).mono ?_); (case side1 => exact cc_ (Kd.C_below HR0_3.out bg_)); (case side2 => exact HC0_3.out); rintro e w18 ⟨rfl, hb⟩; replace BK1001 := vb_ BK1001 hb; replace HB := am_ (below_step bg_ hb); (try clear hb); have hz19 := bk4_ BK1001) | (go_at_call 46; (with_reducible refine (impl_isTime.calls a0_2 t1004 _ A16.out).mono ?_); rintro e w' ⟨rfl, ⟨nd, rfl⟩⟩; (try exact dd_))); try go_wp2)); go_meet
      case rel => exact ⟨_, (!t1004), rs_, H', ⟨by first | omega | exact Nat.le_refl _⟩, ⟨vk_ BK1001⟩, ⟨bg_⟩⟩
   ·replace c7 := Bool.eq_false_iff.mpr c7; subst c7; replace H := if_ H; have H' := am_ H; clear H; have hz20 := bk4_ BK1001; go_wp2_with (first | (go_at_call 44; (with_reducible refine (impl_goodWindow.calls a0_0 a0_1 true _ A4.out).mono ?_); rintro e w' ⟨rfl, ⟨nd, rfl⟩⟩; (try exact dd_)) | (go_at_call 45; (with_reducible refine (impl_GoodSeries.calls k _ _ l0_3 false _ ?side1 ?side2 A6.out).mono ?_); (case side1 => exact cc_ (Kd.C_below HR0_3.out bg_)); (case side2 => exact HC0_3.out); rintro e w21 ⟨rfl, hb⟩; replace BK1001 := vb_ BK1001 hb; replace HB := am_ (below_step bg_ hb); (try clear hb))); (repeat (go_quiet (first | (go_at_call 44; (with_reducible refine (impl_goodWindow.calls a0_0 a0_1 true _ A4.out).mono ?_); rintro e w' ⟨rfl, ⟨nd, rfl⟩⟩; (try exact dd_)) | (go_at_call 45; (with_reducible refine (impl_GoodSeries.calls k _ _ l0_3 false _ ?side1 ?side2 A6.out).mono ?_); (case side1 => exact cc_ (Kd.C_below HR0_3.out bg_)); (case side2 => exact HC0_3.out); rintro e w21 ⟨rfl, hb⟩; replace BK1001 := vb_ BK1001 hb; replace HB := am_ (below_step bg_ hb); (try clear hb))); try go_wp2)); go_meet
    case rel => exact ⟨_, (true), rs_, H', ⟨by first | omega | exact Nat.le_refl _⟩, ⟨vk_ BK1001⟩, ⟨bg_⟩⟩
  ·replace c5 := Bool.eq_false_iff.mpr c5; subst c5; replace H := if_ H; have H' := am_ H; clear H; have hz22 := bk4_ BK1001; go_wp2_with (first | (go_at_call 44; (with_reducible refine (impl_goodWindow.calls a0_0 a0_1 false _ A4.out).mono ?_); rintro e w' ⟨rfl, ⟨nd, rfl⟩⟩; (try exact dd_))); (repeat (go_quiet (first | (go_at_call 44; (with_reducible refine (impl_goodWindow.calls a0_0 a0_1 false _ A4.out).mono ?_); rintro e w' ⟨rfl, ⟨nd, rfl⟩⟩; (try exact dd_))); try go_wp2)); go_meet
   case rel => exact ⟨_, (true), rs_, H', ⟨by first | omega | exact Nat.le_refl _⟩, ⟨vk_ BK1001⟩, ⟨bg_⟩⟩
 case rest =>
  clear HC2; obtain ⟨kq, x35_1, rfl, HA, HJ1, BK1001, HB⟩ := hcut
  cases kq with
  | zero => exact absurd HA.out (by simp [impl_GoodHead.j0])
  | succ kj1 =>
   have H := HA.out; clear HA; simp only [impl_GoodHead.j0] at H
   by_cases c23 : x35_1 = true
   ·subst c23; replace H := it_ H; obtain rfl := si_ H; go_wp2; (repeat (go_quiet (fail); try go_wp2)); go_ret; exact ⟨rf_, bg_⟩
   ·replace c23 := Bool.eq_false_iff.mpr c23; subst c23; replace H := if_ H; have H' := am_ H; clear H; have hz24 := bk4_ BK1001; go_wp2; (repeat (go_quiet (fail); try go_wp2))
    go_loopg [39] kj1 (fun kq v39 w' => ∃ (x39_2 : Int), v39 = .int .i64 x39_2 ∧ Aside0 (impl_GoodHead.l0 kq l0_3 (l0_3.length : Int) x39_2 a0_0 a0_1 a0_2 l0_3 = some r) ∧ Aside0 (kq ≤ kj1) ∧ Aside0 (w'.heap[gb1001]? = some (.cells #[.int .i64 a0_0, .int .i64 a0_1, .int .i64 a0_2, (.slice A0_3 l0_3.length c0_3)] 31 (0, 0))) ∧ Aside0 (Below w.heap.size w w'))
    case atStart => exact ⟨(0), rs_, H', ⟨Nat.le_refl _⟩, ⟨vk_ BK1001⟩, ⟨bg_⟩⟩
    case round =>
     clear H'; (try clear c23); (try clear hz24); obtain ⟨x39_2, rfl, HA, HK2, BK1001, HB⟩ := hrel
     cases gk with
     | zero => exact absurd HA.out (by simp [impl_GoodHead.l0])
     | succ k2 =>
      have H := HA.out; clear HA; simp only [impl_GoodHead.l0] at H
      by_cases c25 : x39_2 < (l0_3.length : Int)
      ·rw [if_pos c25] at H; have c25b0 := decide_eq_true c25; clear c25; obtain ⟨c26, H⟩ := is_ H; have c26b0 := decide_eq_true c26; clear c26; obtain ⟨c27, H⟩ := is_ H; have c27b0 := decide_eq_true c27; clear c27; obtain ⟨ji28, hji28⟩ : ∃ j_ : Int, (wrap64 ((((rd_T56 l0_3 x39_2).f1).length : Int) - 1)) = j_ := ⟨_, rfl⟩; replace H : (if 0 ≤ (ji28) then (if (ji28) < (((rd_T56 l0_3 x39_2).f1).length : Int) then (if ((rd_T69 ((rd_T56 l0_3 x39_2).f1) (ji28)).f0) > a0_2 then (some false) else (impl_GoodHead.l0 k2 l0_3 (l0_3.length : Int) (wrap64 (x39_2 + 1)) a0_0 a0_1 a0_2 l0_3)) else (none)) else (none)) = some r := by first | (rw [hji28] at H; exact H) | (simp only [hji28] at H ⊢; exact H)
       have hji28w : (IntKind.i64.wrap ((((rd_T56 l0_3 x39_2).f1).length : Int) - 1)) = ji28 := (i64_w _).trans hji28; obtain ⟨c29, H⟩ := is_ H; have c29b0 := decide_eq_true c29; clear c29; obtain ⟨c30, H⟩ := is_ H; have c30b0 := decide_eq_true c30; clear c30
       by_cases c31 : ((rd_T69 ((rd_T56 l0_3 x39_2).f1) (ji28)).f0) > a0_2
       ·rw [if_pos c31] at H; have c31b0 := dg_ c31; clear c31; obtain rfl := si_ H; have p1005 : 0 ≤ (x39_2 : Int) := od_; have q1005 : x39_2 < (l0_3.length : Int) := od_; obtain ⟨ad1005, A1005_0, c1005_0, A1005_1, c1005_1, e1005, hx1005_0, hx1005_1, hl1005_0, hi1005_0, hl1005_1, hi1005_1⟩ := at_T56 HR0_3.out x39_2 p1005 q1005
        cases e1005
        replace hx1005_0 := kp_ HB hx1005_0; replace hx1005_1 := kp_ HB hx1005_1; have HR1005_0 := am_ hi1005_0; have HC1005_0 := am_ hl1005_0; clear hi1005_0 hl1005_0; have HR1005_1 := am_ hi1005_1; have HC1005_1 := am_ hl1005_1; clear hi1005_1 hl1005_1; replace p1005 := eq_true p1005; replace q1005 := eq_true q1005; go_wp2_with (first | ((with_reducible refine gate_dst (N := 4) rfl ?_); (try (refine gate_guard (by rfl) ?_; dsimp only)); refine bx_ 4 #[.slice none 0 0, .slice none 0 0] 56 ?_; intro gb1006 hg w32 hbox hb; have BK1006 := am_ (hbox); have GW1006 := am_ (gg_ hg : w.heap.size ≤ gb1006); have NB1001_1006 := nl_ BK1001 hg; have NB1006_1001 := nr_ BK1001 hg; replace BK1001 := vb_ BK1001 hb; replace HB := am_ (below_step bg_ hb); have GE1006 := GW1006; clear hb hbox hg; have hnb33 := NB1006_1001.out; have hnc33 := NB1001_1006.out; have hz34 := bk2_ BK1006; have p1007 : 0 ≤ ((ji28) : Int) := od_; have q1007 : (ji28) < (((rd_T56 l0_3 x39_2).f1).length : Int) := od_; obtain ⟨ad1007, e1007, hx1007_0, hx1007_1⟩ := at_T69 HR1005_1.out (ji28) p1007 q1007; cases e1007; have hn1007_0 : ad1007.block ≠ gb1006 := hb_ hx1007_0 GW1006; have hn1007_1 : ad1007.block ≠ gb1006 := hb_ hx1007_0 GW1006; replace hx1007_0 := kp_ HB hx1007_0; replace hx1007_1 := kp_ HB hx1007_1; replace hx1007_0 := cf_ gb1006 0 hn1007_0 (.slice A1005_0 ((rd_T56 l0_3 x39_2).f0).length c1005_0) hx1007_0; replace hx1007_1 := cf_ gb1006 0 hn1007_0 (.slice A1005_0 ((rd_T56 l0_3 x39_2).f0).length c1005_0) hx1007_1; replace hx1007_0 := cf_ gb1006 1 hn1007_1 (.slice (some ad1007) ((rd_T56 l0_3 x39_2).f1).length c1005_1) hx1007_0; replace hx1007_1 := cf_ gb1006 1 hn1007_1 (.slice (some ad1007) ((rd_T56 l0_3 x39_2).f1).length c1005_1) hx1007_1; (try have hy1007_0 := fun (n_ : Nat) => (show ((((w32.drewN n_).setCell ⟨gb1006, 0, none⟩ (.slice A1005_0 ((rd_T56 l0_3 x39_2).f0).length c1005_0)).setCell ⟨gb1006, 1, none⟩ (.slice (some ad1007) ((rd_T56 l0_3 x39_2).f1).length c1005_1))).cell? _ = some _ from hx1007_0)); (try have hy1007_1 := fun (n_ : Nat) => (show ((((w32.drewN n_).setCell ⟨gb1006, 0, none⟩ (.slice A1005_0 ((rd_T56 l0_3 x39_2).f0).length c1005_0)).setCell ⟨gb1006, 1, none⟩ (.slice (some ad1007) ((rd_T56 l0_3 x39_2).f1).length c1005_1))).cell? _ = some _ from hx1007_1)); clear hn1007_0; clear hn1007_1; replace p1007 := eq_true p1007; replace q1007 := eq_true q1007; have hz35 := bk4_ BK1001)); (repeat (go_quiet (first | ((with_reducible refine gate_dst (N := 4) rfl ?_); (try (refine gate_guard (by rfl) ?_; dsimp only)); refine bx_ 4 #[.slice none 0 0, .slice none 0 0] 56 ?_; intro gb1006 hg w32 hbox hb; have BK1006 := am_ (hbox); have GW1006 := am_ (gg_ hg : w.heap.size ≤ gb1006); have NB1001_1006 := nl_ BK1001 hg; have NB1006_1001 := nr_ BK1001 hg; replace BK1001 := vb_ BK1001 hb; replace HB := am_ (below_step bg_ hb); have GE1006 := GW1006; clear hb hbox hg; have hnb33 := NB1006_1001.out; have hnc33 := NB1001_1006.out; have hz34 := bk2_ BK1006; have p1007 : 0 ≤ ((ji28) : Int) := od_; have q1007 : (ji28) < (((rd_T56 l0_3 x39_2).f1).length : Int) := od_; obtain ⟨ad1007, e1007, hx1007_0, hx1007_1⟩ := at_T69 HR1005_1.out (ji28) p1007 q1007; cases e1007; have hn1007_0 : ad1007.block ≠ gb1006 := hb_ hx1007_0 GW1006; have hn1007_1 : ad1007.block ≠ gb1006 := hb_ hx1007_0 GW1006; replace hx1007_0 := kp_ HB hx1007_0; replace hx1007_1 := kp_ HB hx1007_1; replace hx1007_0 := cf_ gb1006 0 hn1007_0 (.slice A1005_0 ((rd_T56 l0_3 x39_2).f0).length c1005_0) hx1007_0; replace hx1007_1 := cf_ gb1006 0 hn1007_0 (.slice A1005_0 ((rd_T56 l0_3 x39_2).f0).length c1005_0) hx1007_1; replace hx1007_0 := cf_ gb1006 1 hn1007_1 (.slice (some ad1007) ((rd_T56 l0_3 x39_2).f1).length c1005_1) hx1007_0; replace hx1007_1 := cf_ gb1006 1 hn1007_1 (.slice (some ad1007) ((rd_T56 l0_3 x39_2).f1).length c1005_1) hx1007_1; (try have hy1007_0 := fun (n_ : Nat) => (show ((((w32.drewN n_).setCell ⟨gb1006, 0, none⟩ (.slice A1005_0 ((rd_T56 l0_3 x39_2).f0).length c1005_0)).setCell ⟨gb1006, 1, none⟩ (.slice (some ad1007) ((rd_T56 l0_3 x39_2).f1).length c1005_1))).cell? _ = some _ from hx1007_0)); (try have hy1007_1 := fun (n_ : Nat) => (show ((((w32.drewN n_).setCell ⟨gb1006, 0, none⟩ (.slice A1005_0 ((rd_T56 l0_3 x39_2).f0).length c1005_0)).setCell ⟨gb1006, 1, none⟩ (.slice (some ad1007) ((rd_T56 l0_3 x39_2).f1).length c1005_1))).cell? _ = some _ from hx1007_1)); clear hn1007_0; clear hn1007_1; replace p1007 := eq_true p1007; replace q1007 := eq_true q1007; have hz35 := bk4_ BK1001)); try go_wp2)); go_ret; exact ⟨by first | rfl | (simp [errW_none, errW_some] <;> rfl) | (simp only [← hji28]; first | rfl | (simp [errW_none, errW_some] <;> rfl)) | (simp [*, errW_none, errW_some] <;> rfl) | (simp [*, Go.Proofs.YthkhflhmnjgbnaaGreat.Gt.nil_bne]; done), bg_⟩
       ·rw [if_neg c31] at H; have c31b0 := df_ c31; clear c31; have H' := am_ H; clear H; have p1005 : 0 ≤ (x39_2 : Int) := od_; have q1005 : x39_2 < (l0_3.length : Int) := od_; obtain ⟨ad1005, A1005_0, c1005_0, A1005_1, c1005_1, e1005, hx1005_0, hx1005_1, hl1005_0, hi1005_0, hl1005_1, hi1005_1⟩ := at_T56 HR0_3.out x39_2 p1005 q1005
        cases e1005
        replace hx1005_0 := kp_ HB hx1005_0; replace hx1005_1 := kp_ HB hx1005_1; have HR1005_0 := am_ hi1005_0; have HC1005_0 := am_ hl1005_0; clear hi1005_0 hl1005_0; have HR1005_1 := am_ hi1005_1; have HC1005_1 := am_ hl1005_1; clear hi1005_1 hl1005_1; replace p1005 := eq_true p1005; replace q1005 := eq_true q1005; go_wp2_with (first | ((with_reducible refine gate_dst (N := 4) rfl ?_); (try (refine gate_guard (by rfl) ?_; dsimp only)); refine bx_ 4 #[.slice none 0 0, .slice none 0 0] 56 ?_; intro gb1006 hg w36 hbox hb; have BK1006 := am_ (hbox); have GW1006 := am_ (gg_ hg : w.heap.size ≤ gb1006); have NB1001_1006 := nl_ BK1001 hg; have NB1006_1001 := nr_ BK1001 hg; replace BK1001 := vb_ BK1001 hb; replace HB := am_ (below_step bg_ hb); have GE1006 := GW1006; clear hb hbox hg; have hnb37 := NB1006_1001.out; have hnc37 := NB1001_1006.out; have hz38 := bk2_ BK1006; have p1007 : 0 ≤ ((ji28) : Int) := od_; have q1007 : (ji28) < (((rd_T56 l0_3 x39_2).f1).length : Int) := od_; obtain ⟨ad1007, e1007, hx1007_0, hx1007_1⟩ := at_T69 HR1005_1.out (ji28) p1007 q1007; cases e1007; have hn1007_0 : ad1007.block ≠ gb1006 := hb_ hx1007_0 GW1006; have hn1007_1 : ad1007.block ≠ gb1006 := hb_ hx1007_0 GW1006; replace hx1007_0 := kp_ HB hx1007_0; replace hx1007_1 := kp_ HB hx1007_1; replace hx1007_0 := cf_ gb1006 0 hn1007_0 (.slice A1005_0 ((rd_T56 l0_3 x39_2).f0).length c1005_0) hx1007_0; replace hx1007_1 := cf_ gb1006 0 hn1007_0 (.slice A1005_0 ((rd_T56 l0_3 x39_2).f0).length c1005_0) hx1007_1; replace hx1007_0 := cf_ gb1006 1 hn1007_1 (.slice (some ad1007) ((rd_T56 l0_3 x39_2).f1).length c1005_1) hx1007_0; replace hx1007_1 := cf_ gb1006 1 hn1007_1 (.slice (some ad1007) ((rd_T56 l0_3 x39_2).f1).length c1005_1) hx1007_1; (try have hy1007_0 := fun (n_ : Nat) => (show ((((w36.drewN n_).setCell ⟨gb1006, 0, none⟩ (.slice A1005_0 ((rd_T56 l0_3 x39_2).f0).length c1005_0)).setCell ⟨gb1006, 1, none⟩ (.slice (some ad1007) ((rd_T56 l0_3 x39_2).f1).length c1005_1))).cell? _ = some _ from hx1007_0)); (try have hy1007_1 := fun (n_ : Nat) => (show ((((w36.drewN n_).setCell ⟨gb1006, 0, none⟩ (.slice A1005_0 ((rd_T56 l0_3 x39_2).f0).length c1005_0)).setCell ⟨gb1006, 1, none⟩ (.slice (some ad1007) ((rd_T56 l0_3 x39_2).f1).length c1005_1))).cell? _ = some _ from hx1007_1)); clear hn1007_0; clear hn1007_1; replace p1007 := eq_true p1007; replace q1007 := eq_true q1007; have hz39 := bk4_ BK1001)); (repeat (go_quiet (first | ((with_reducible refine gate_dst (N := 4) rfl ?_); (try (refine gate_guard (by rfl) ?_; dsimp only)); refine bx_ 4 #[.slice none 0 0, .slice none 0 0] 56 ?_; intro gb1006 hg w36 hbox hb; have BK1006 := am_ (hbox); have GW1006 := am_ (gg_ hg : w.heap.size ≤ gb1006); have NB1001_1006 := nl_ BK1001 hg; have NB1006_1001 := nr_ BK1001 hg; replace BK1001 := vb_ BK1001 hb; replace HB := am_ (below_step bg_ hb); have GE1006 := GW1006; clear hb hbox hg; have hnb37 := NB1006_1001.out; have hnc37 := NB1001_1006.out; have hz38 := bk2_ BK1006; have p1007 : 0 ≤ ((ji28) : Int) := od_; have q1007 : (ji28) < (((rd_T56 l0_3 x39_2).f1).length : Int) := od_; obtain ⟨ad1007, e1007, hx1007_0, hx1007_1⟩ := at_T69 HR1005_1.out (ji28) p1007 q1007; cases e1007; have hn1007_0 : ad1007.block ≠ gb1006 := hb_ hx1007_0 GW1006; have hn1007_1 : ad1007.block ≠ gb1006 := hb_ hx1007_0 GW1006; replace hx1007_0 := kp_ HB hx1007_0; replace hx1007_1 := kp_ HB hx1007_1; replace hx1007_0 := cf_ gb1006 0 hn1007_0 (.slice A1005_0 ((rd_T56 l0_3 x39_2).f0).length c1005_0) hx1007_0; replace hx1007_1 := cf_ gb1006 0 hn1007_0 (.slice A1005_0 ((rd_T56 l0_3 x39_2).f0).length c1005_0) hx1007_1; replace hx1007_0 := cf_ gb1006 1 hn1007_1 (.slice (some ad1007) ((rd_T56 l0_3 x39_2).f1).length c1005_1) hx1007_0; replace hx1007_1 := cf_ gb1006 1 hn1007_1 (.slice (some ad1007) ((rd_T56 l0_3 x39_2).f1).length c1005_1) hx1007_1; (try have hy1007_0 := fun (n_ : Nat) => (show ((((w36.drewN n_).setCell ⟨gb1006, 0, none⟩ (.slice A1005_0 ((rd_T56 l0_3 x39_2).f0).length c1005_0)).setCell ⟨gb1006, 1, none⟩ (.slice (some ad1007) ((rd_T56 l0_3 x39_2).f1).length c1005_1))).cell? _ = some _ from hx1007_0)); (try have hy1007_1 := fun (n_ : Nat) => (show ((((w36.drewN n_).setCell ⟨gb1006, 0, none⟩ (.slice A1005_0 ((rd_T56 l0_3 x39_2).f0).length c1005_0)).setCell ⟨gb1006, 1, none⟩ (.slice (some ad1007) ((rd_T56 l0_3 x39_2).f1).length c1005_1))).cell? _ = some _ from hx1007_1)); clear hn1007_0; clear hn1007_1; replace p1007 := eq_true p1007; replace q1007 := eq_true q1007; have hz39 := bk4_ BK1001)); try go_wp2)); go_roundg k2
        case measure => have := HJ1.out; have := HK2.out; omega
        case rel => exact ⟨(wrap64 (x39_2 + 1)), rs_, H', ⟨by have := HJ1.out; have := HK2.out; omega⟩, ⟨vf_ BK1001⟩, ⟨bg_⟩⟩
      ·rw [if_neg c25] at H; have c25b0 := decide_eq_false c25; clear c25; obtain rfl := si_ H; go_wp2; (repeat (go_quiet (fail); try go_wp2)); go_ret; exact ⟨rf_, bg_⟩

/-! ### impl_Matcher_71: function 71 -/
def impl_Matcher_71.l0 (P : S50 → Option Bool) (l0 : List (S50)) : Nat → Int → Option Int
 | 0, _ => none
 | k + 1, x8 => if x8 < (l0.length : Int) then (if 0 ≤ x8 then ((P (⟨(rd_T50 l0 x8).f0, (rd_T50 l0 x8).f1, (rd_T50 l0 x8).f2⟩ : S50)).bind fun b => if b = true then some x8 else impl_Matcher_71.l0 P l0 k (wrap64 (x8 + 1))) else none) else some (-1)
def impl_Matcher_71.f (k : Nat) (P : S50 → Option Bool) (l0 : List (S50)) : Option Int := impl_Matcher_71.l0 P l0 k 0
theorem impl_Matcher_71.mono_l (P P' : S50 → Option Bool) (hP : ∀ x, LeO (P x) (P' x)) (l0 : List (S50)) : ∀ k x8, LeO (impl_Matcher_71.l0 P l0 k x8) (impl_Matcher_71.l0 P' l0 (k + 1) x8)
 | 0, _ => LeO.none _
 | k + 1, x8 => by
  have ih := impl_Matcher_71.mono_l P P' hP l0 k
  unfold impl_Matcher_71.l0
  exact LeO.ite (LeO.ite (LeO.bind (hP _) (fun _ => LeO.ite (LeO.refl _) (ih _))) (LeO.none _)) (LeO.refl _)
theorem impl_Matcher_71.mono (P P' : S50 → Option Bool) (hP : ∀ x, LeO (P x) (P' x)) (l0 : List (S50)) (k : Nat) : LeO (impl_Matcher_71.f k P l0) (impl_Matcher_71.f (k + 1) P' l0) := impl_Matcher_71.mono_l P P' hP l0 k _
set_option maxHeartbeats 4000000 in
set_option maxRecDepth 100000 in
theorem impl_Matcher_71.calls (k : Nat) (P : S50 → Option Bool) (g : Nat) (vf : Value) (lb : Array Value) (hv : (vf = .func (.func g) #[] lb)) (eg : ∀ args w, (callFunc g args).run Tryz.prog w = .ok (.enter g args) w) (A0 : Option Addr) (c0 : Nat) (l0 : List (S50)) (r : Int) (w : World) (hr0 : Kd.C k50 w A0 l0.length l0) (hc0 : l0.length ≤ c0)
  (hP : ∀ (W : World) (x : S50) (b : Bool), Below w.heap.size w W → P x = some b → Calls Tryz.prog g (#[(.agg #[.string (x.f0), .int .i64 (x.f1), .string (x.f2)])] ++ lb) W fun e w' => e = .returned (.bool b) ∧ Below W.heap.size W w') (h : impl_Matcher_71.f k P l0 = some r) :
  Calls Tryz.prog 71 #[.slice A0 l0.length c0, vf] w fun e w' => e = .returned (.int .i64 r) ∧ Below w.heap.size w w' := by
 subst hv
 have hu := Tryz.underlying50
 have HR0 := am_ hr0
 have HC0 := am_ hc0
 clear hr0 hc0
 have HB := am_ (Below.refl w.heap.size w)
 have hP' := am_ hP
 clear hP
 have H' := am_ (show impl_Matcher_71.l0 P l0 k 0 = some r from h)
 clear h
 go_enter Tryz.func71, Tryz.ntmps71
 go_wp2
 go_loopg [8] k (fun kq v8 w' => ∃ (x8 : Int), v8 = .int .i64 x8 ∧ Aside0 (impl_Matcher_71.l0 P l0 kq x8 = some r) ∧ Aside0 (Below w.heap.size w w'))
 case atStart => exact ⟨0, rs_, H', ⟨bl_⟩⟩
 case round =>
  clear H'
  obtain ⟨x8, rfl, HA, HB⟩ := hrel
  cases gk with
  | zero => exact absurd HA.out (by simp [impl_Matcher_71.l0])
  | succ k1 =>
   have H := HA.out
   clear HA
   simp only [impl_Matcher_71.l0] at H
   by_cases c4 : x8 < (l0.length : Int)
   ·rw [if_pos c4] at H
    have c4b0 : decide (x8 < (l0.length : Int)) = true := decide_eq_true c4
    by_cases c5 : 0 ≤ x8
    ·rw [if_pos c5] at H
     have c5b0 : decide (0 ≤ x8) = true := decide_eq_true c5
     obtain ⟨b, hb0, H⟩ := Option.bind_eq_some_iff.mp H
     have HP0 := am_ hb0
     clear hb0
     obtain ⟨ad, e_, hx_0, hx_1, hx_2⟩ := at_T50 (Kd.C_below HR0.out HB.out) x8 c5 c4
     cases e_
     skip
     have p_ := eq_true c5
     have q_ := eq_true c4
     clear c4 c5
     cases b with
     | true =>
      rw [if_pos rfl] at H
      obtain rfl := Option.some.inj H
      go_wp2_with (first | ((with_reducible refine Calls.mono (hP'.out _ (⟨(rd_T50 l0 x8).f0, (rd_T50 l0 x8).f1, (rd_T50 l0 x8).f2⟩ : S50) true HB.out HP0.out) ?_); rintro e w10 ⟨rfl, hb⟩; have n2_ := am_ (below_step HB.out hb); clear HB; have HB := n2_; clear n2_ hb))
      go_ret
      exact ⟨rf_, bl_⟩
     | false =>
      rw [if_neg (show ¬ (false = true) by decide)] at H
      have H' := am_ H
      clear H
      go_wp2_with (first | ((with_reducible refine Calls.mono (hP'.out _ (⟨(rd_T50 l0 x8).f0, (rd_T50 l0 x8).f1, (rd_T50 l0 x8).f2⟩ : S50) false HB.out HP0.out) ?_); rintro e w10 ⟨rfl, hb⟩; have n2_ := am_ (below_step HB.out hb); clear HB; have HB := n2_; clear n2_ hb))
      go_roundg k1
      case measure => omega
      case rel => exact ⟨(wrap64 (x8 + 1)), rs_, H', ⟨bl_⟩⟩
    ·rw [if_neg c5] at H
     exact absurd H (by simp)
   ·rw [if_neg c4] at H
    have c4b0 : decide (x8 < (l0.length : Int)) = false := decide_eq_false c4
    clear c4
    obtain rfl := Option.some.inj H
    go_wp2
    go_ret
    exact ⟨rf_, bl_⟩

/-! ### impl_Matcher_47: function 47 -/
def impl_Matcher_47.f (k : Nat) (P : S50 → Option Bool) (l0 : List (S50)) : Option Bool := (impl_Matcher_71.f k P l0).bind fun j => some (decide (0 ≤ j))
theorem impl_Matcher_47.mono (P P' : S50 → Option Bool) (hP : ∀ x, LeO (P x) (P' x)) (l0 : List (S50)) (k : Nat) : LeO (impl_Matcher_47.f k P l0) (impl_Matcher_47.f (k + 1) P' l0) := LeO.bind (impl_Matcher_71.mono P P' hP l0 k) (fun _ => LeO.refl _)
set_option maxHeartbeats 4000000 in
set_option maxRecDepth 100000 in
theorem impl_Matcher_47.calls (k : Nat) (P : S50 → Option Bool) (g : Nat) (vf : Value) (lb : Array Value) (hv : vf = .func (.func g) #[] lb) (eg : ∀ args w, (callFunc g args).run Tryz.prog w = .ok (.enter g args) w) (A0 : Option Addr) (c0 : Nat) (l0 : List (S50)) (r : Bool) (w : World) (hr0 : Kd.C k50 w A0 l0.length l0) (hc0 : l0.length ≤ c0)
  (hP : ∀ (W : World) (x : S50) (b : Bool), Below w.heap.size w W → P x = some b → Calls Tryz.prog g (#[(.agg #[.string (x.f0), .int .i64 (x.f1), .string (x.f2)])] ++ lb) W fun e w' => e = .returned (.bool b) ∧ Below W.heap.size W w') (h : impl_Matcher_47.f k P l0 = some r) :
  Calls Tryz.prog 47 #[.slice A0 l0.length c0, vf] w fun e w' => e = .returned (.bool r) ∧ Below w.heap.size w w' := by
 unfold impl_Matcher_47.f at h
 obtain ⟨j, hj, h⟩ := Option.bind_eq_some_iff.mp h
 obtain rfl := Option.some.inj h
 have hx := am_ (impl_Matcher_71.calls k P g vf lb hv eg A0 c0 l0 j w hr0 hc0 hP hj)
 clear hr0 hc0 hP h hj eg
 subst hv
 go_enter Tryz.func47, Tryz.ntmps47
 go_wp2_with (first | (go_at_call 71; refine hx.out.mono ?_; rintro e w1 ⟨rfl, hb⟩))
 go_ret
 exact ⟨rfl, hb⟩

/-! ### strings_IndexByte: function 101 -/
def strings_IndexByte.f (a0 : ByteArray) (a1 : Int) : Option (Int) := some (Lib.indexByte a0.data.toList a1.toNat.toUInt8)
theorem strings_IndexByte.calls (a0 : ByteArray) (a1 : Int) (r : Int) (w : World) (h : strings_IndexByte.f a0 a1 = some r) :
  Calls Tryz.prog 101 #[.string a0, .int .u8 a1] w fun e w' => e = .returned (.int .i64 r) ∧ Drawn0 w w' := by
 obtain rfl := Option.some.inj h
 exact (Tryz.strings_IndexByte a0 a1 w).mono (fun e w' hp => ⟨hp.1, by rw [hp.2]; exact Drawn0.refl _⟩)

/-! ### impl_alternatives: function 93 -/
/-- Rows whose heads lie in a row: each read, none of them in a block that is not ok. -/
def Rows {α : Type} (d : Kd α) (e : Nat) (w : World) (base : Nat) (ok : Nat → Prop) (xs : List (Option Addr × Nat × Nat)) (o : List (List α)) : Prop := ∃ f : Nat → Nat, ∀ (j : Nat) (l : List α), o[j]? = some l → ∃ A c, xs[j]? = some (A, l.length, c) ∧ Kd.R d e w base (fun k => ok k ∧ f k = j) (.slice A l.length c) l
section
variable {α : Type} {d : Kd α} {e eo base g n c : Nat} {w w1 : World} {ok ok' : Nat → Prop} {xs xs' : List (Option Addr × Nat × Nat)} {o : List (List α)}
theorem rows_nil (d : Kd α) (e : Nat) (w : World) (base : Nat) (ok : Nat → Prop) (xs : List (Option Addr × Nat × Nat)) : Rows d e w base ok xs ([] : List (List α)) := ⟨fun _ => 0, fun j l h => by simp at h⟩
theorem rows_step (h : Rows d e w base ok xs o) (hm : ∀ k, ok k → k < w.heap.size → w1.heap[k]? = w.heap[k]?) (hok : ∀ k, ok k → k < w.heap.size → ok' k) (hx : ∀ j, j < o.length → xs'[j]? = xs[j]?) : Rows d e w1 base ok' xs' o := by
  obtain ⟨f, h⟩ := h
  refine ⟨f, fun j l hj => ?_⟩
  obtain ⟨A, c, h1, h2⟩ := h j l hj
  exact ⟨A, c, (hx j (List.getElem?_eq_some_iff.1 hj).1).trans h1, Kd.R_mono (Kd.R_move (Kd.R_bound h2) (fun k hk => hm k hk.1.1 hk.2.2.1)) (fun k hk => ⟨hok k hk.1.1 hk.2.2.1, hk.1.2⟩)⟩
theorem rows_below (h : Rows d e w base ok xs o) (hb : Below w.heap.size w w1) : Rows d e w1 base ok xs o := rows_step h (fun k _ hk => hb.block k hk) (fun _ hk _ => hk) (fun _ _ => rfl)
theorem rows_alloc (h : Rows d e w base ok xs o) (x : Obj) : Rows d e (w.alloc x) base ok xs o := rows_below h (below_alloc (Below.refl _ _) x)
theorem rows_drew (h : Rows d e w base ok xs o) : Rows d e w.drew base ok xs o := rows_below h (below_drew (Below.refl _ _))
theorem rows_drewN (h : Rows d e w base ok xs o) (m : Nat) : Rows d e (w.drewN m) base ok xs o := rows_below h (pw_below_drewN (Below.refl _ _) m)
theorem rq_ {p q : Prop} (H : Aside0 p) (h : p → q := by (intro hv_; (with_reducible repeat (first | apply rows_alloc | apply rows_drewN | apply rows_drew)); exact hv_)) : q := h H.out
theorem rows_snoc {A : Option Addr} {l : List α} {m : Nat} (hE : d.E = []) (h : Rows d e w base (fun k => ok k ∧ some k ≠ (.slice A m c : Value).ownBlock) xs o) (hl : xs[o.length]? = some (A, m, c)) (hm : l.length = m) (hr : Kd.R d e w base ok (.slice A m c) l) : Rows d e w base ok xs (o ++ [l]) := by
  subst hm
  obtain ⟨f, h⟩ := h
  refine ⟨fun k => if some k = (.slice A l.length c : Value).ownBlock then o.length else f k, fun j q hj => ?_⟩
  rcases Nat.lt_or_ge j o.length with hlt | hge
  · rw [List.getElem?_append_left hlt] at hj
    obtain ⟨A', c', h1, h2⟩ := h j q hj
    exact ⟨A', c', h1, Kd.R_mono h2 (fun k hk => ⟨hk.1.1, (if_neg hk.1.2).trans hk.2⟩)⟩
  · have : j = o.length := by
      have := (List.getElem?_eq_some_iff.1 hj).1
      rw [List.length_append, List.length_singleton] at this
      omega
    subst this
    obtain rfl : l = q := by simpa using hj
    exact ⟨A, c, hl, Kd.R_mono (Kd.R_tight hE hr) (fun k hk => ⟨hr.1 k hk.symm, if_pos hk⟩)⟩
theorem rows_R (h : Rows d e w base (fun k => k ≠ g) xs o) (hlen : o.length = xs.length) (hO : Kd.R kcut eo w base ok (.slice (some ⟨g, 0, none⟩) n c) xs) : Kd.S (Kd.slice e d) eo w base (fun _ => True) (.slice (some ⟨g, 0, none⟩) n c) o := by
  have own := Kd.own_of_R (enc := fun x : Option Addr × Nat × Nat => .slice x.1 x.2.1 x.2.2) (h1 := fun _ => rfl) hO
  obtain ⟨f, h⟩ := h
  refine ⟨f, fun _ _ => trivial, encs (fun x : Option Addr × Nat × Nat => .slice x.1 x.2.1 x.2.2) xs, by rw [List.length_zipIdx, hlen]; exact own, by rw [encs_length, List.length_zipIdx, hlen]; exact (Nat.mul_one _).symm, fun j p hj => ?_⟩
  rw [List.getElem?_zipIdx, Nat.zero_add] at hj
  obtain ⟨l, hl, rfl⟩ := Option.map_eq_some_iff.1 hj
  obtain ⟨A, c', h1, h2⟩ := h j l hl
  obtain ⟨hx, h1⟩ := List.getElem?_eq_some_iff.1 h1
  refine ⟨.slice A l.length c', ?_, Kd.R_mono h2 (fun k hk => ⟨⟨trivial, fun he => hk.1 (by simpa [Value.ownBlock] using he)⟩, hk.2⟩)⟩
  show ((encs (fun x : Option Addr × Nat × Nat => Value.slice x.1 x.2.1 x.2.2) xs).drop (j * 1)).take 1 = _
  rw [Nat.mul_one, List.drop_eq_getElem_cons (by rw [encs_length]; exact hx)]
  simp [encs, h1]
end
def impl_put.T1 : Bool × List (List Nat × List Nat) := (true, [([], []), ([], []), ([1], [1]), ([2], [2]), ([], []), ([], []), ([5], [5]), ([6], [6]), ([4, 7], [4, 7]), ([8], [8]), ([], []), ([10], [10]), ([9, 11], [9, 11]), ([0, 3, 0, 1, 2, 3, 4, 5, 6, 7, 8, 9, 10, 11, 12], [0, 3]), ([13, 12, 12, 0, 1, 2, 3, 4, 5, 6, 7, 8, 9, 10, 11, 12], [12, 13])])
def impl_put.B1 : List Nat := [0, 0, 2, 6, 0, 0, 32, 96, 240, 496, 0, 1024, 4080, 8191, 16383]
theorem impl_put.tab1 : rtab .any (opsOf Tryz.f100 1) = impl_put.T1 := by kernel_rfl
theorem impl_put.bits1 : waitsOk impl_put.T1.2 impl_put.B1 = true := by kernel_rfl
set_option maxHeartbeats 8000000 in
set_option maxRecDepth 100000 in
theorem impl_put.calls (x : S119) (gb g n c m : Nat) (J : Int) (xs : List (Option Addr × Nat × Nat)) (Ai : Option Addr) (ci : Nat) (ps : List S119) (w0 w : World) (hB : Below w0.heap.size w0 w) (hJ : ((n : Nat) : Int) - 1 = J) (hn : n ≤ 1000) (h1 : 1 ≤ n) (hm : ps.length = m) (hml : m ≤ 1000)
    (hbk : w.heap[gb]? = some (.cells #[.slice (some ⟨g, 0, none⟩) n c] 113 (0, 0))) (hS : w.cell? ⟨g, J.toNat, none⟩ = some (.slice Ai m ci)) (hO : Kd.R kcut 120 w w0.heap.size (fun k => k = g) (.slice (some ⟨g, 0, none⟩) n c) xs) (hI : Kd.R k119 119 w w0.heap.size (fun k => k ≠ gb ∧ k ≠ g) (.slice Ai m ci) ps) :
    Calls Tryz.prog 100 #[.agg #[.int .u8 x.f0, .bool x.f1, .bool x.f2], .pointer (some ⟨gb, 0, none⟩)] w fun e w' => (∃ v, e = .returned v) ∧ Below w0.heap.size w0 w' ∧ w'.heap[gb]? = some (.cells #[.slice (some ⟨g, 0, none⟩) n c] 113 (0, 0)) ∧ ∃ Aj cj, Kd.R kcut 120 w' w0.heap.size (fun k => k = g) (.slice (some ⟨g, 0, none⟩) n c) (xs.set J.toNat (Aj, m + 1, cj)) ∧ Kd.R k119 119 w' w0.heap.size (fun k => k ≠ gb ∧ k ≠ g) (.slice Aj (m + 1) cj) (ps ++ [x]) ∧ (∀ k, k < w.heap.size → k ≠ g → some k ≠ (.slice Ai m ci : Value).ownBlock → w'.heap[k]? = w.heap[k]?) ∧ ((.slice Aj (m + 1) cj : Value).ownBlock = (.slice Ai m ci : Value).ownBlock ∨ ∃ b, (.slice Aj (m + 1) cj : Value).ownBlock = some b ∧ w.heap.size ≤ b) := by
  have hu := Tryz.underlying119
  have iP : (Tryz.prog.info? 119).map (fun i => (i.zero, i.size, i.bytes)) = some (some (.agg #[.int .u8 0, .bool false, .bool false]), 3, 3) := by kernel_rfl
  have HB := am_ hB
  have BK := am_ hbk
  have HS1 := am_ hS
  have HO := am_ hO
  have HI := am_ hI
  have HGL := am_ (Kd.R_lt hO g rfl)
  have HL := am_ (show ps.length ≤ 1000 by omega)
  have HM := am_ hm
  have hJw : IntKind.i64.wrap ((n : Int) - 1) = J := by rw [IntKind.wrap_i64]; omega
  have hJv : wrap64 ((n : Int) - 1) = J := by unfold wrap64; omega
  have hj0 : (0 ≤ J) = True := eq_true (by omega)
  have hj1 : (J < (n : Int)) = True := eq_true (by omega)
  have HN := am_ hn
  clear hB hbk hS hO hI hm hn h1 hml hJ
  go_enter Tryz.func100, Tryz.ntmps100
  go_wp2_with (first | ((with_reducible refine gate_dst (N := 2) rfl ?_); refine bx_ 2 #[.int .u8 x.f0, .bool x.f1, .bool x.f2] 119 ?_; intro gx hg w8 hbox hb; have n0_ := am_ (Kd.R_below HO.out hb); have n1_ := am_ (Kd.R_below (Kd.R_elderB HI.out gx (Nat.le_of_eq hg.symm)) hb); have n2_ := am_ (blk_below (g := gb) BK.out hb); have n3_ := am_ (below_step HB.out hb); have n4_ := am_ (kp_ ⟨hb⟩ HS1.out); have n5_ := am_ (Nat.lt_of_lt_of_le HGL.out hb.size); have n6_ := am_ hb; have BX := am_ hbox; clear HO HI BK HB HS1 HGL; have HO := n0_; have HI := n1_; have BK := n2_; have HB := n3_; have HS1 := n4_; have HGL := n5_; have HK := n6_; clear n0_ n1_ n2_ n3_ n4_ n5_ n6_ hb hbox hg))
  have n0_ := am_ (Kd.R_drew HO.out)
  have n1_ := am_ (Kd.R_drew HI.out)
  have n2_ := am_ (blk_drew BK.out)
  have n3_ := am_ (below_drew1 HB.out)
  have n4_ := am_ (show w8.drew.cell? ⟨g, J.toNat, none⟩ = some (.slice Ai m ci) from HS1.out)
  have n5_ := am_ (show g < w8.drew.heap.size from HGL.out)
  have n6_ := am_ (blk_drew BX.out)
  have n7_ := am_ (below_drew1 HK.out)
  clear HO HI BK HB HS1 HGL BX HK
  have HO := n0_
  have HI := n1_
  have BK := n2_
  have HB := n3_
  have HS1 := n4_
  have HGL := n5_
  have BX := n6_
  have HK := n7_
  clear n0_ n1_ n2_ n3_ n4_ n5_ n6_ n7_
  refine start_ (n := 15) (S := fun w' => w'.cell? ⟨gb, 0, none⟩ = some (.slice (some ⟨g, 0, none⟩) n c) ∧ w'.cell? ⟨g, J.toNat, none⟩ = some (.slice Ai m ci) ∧ w'.cell? ⟨gx, 0, none⟩ = some (.int .u8 x.f0) ∧ w'.cell? ⟨gx, 1, none⟩ = some (.bool x.f1) ∧ w'.cell? ⟨gx, 2, none⟩ = some (.bool x.f2)) (ds := [14]) (bz 15 0) (by kernel_rfl) rfl rfl ⟨(bc1_0 BK), HS1.out, (bc3_0 BX), (bc3_1 BX), (bc3_2 BX)⟩ (fun hHeld => ?_)
  refine with_tabW impl_put.tab1 impl_put.bits1 (fun HT_ HW_ => ?_)
  generalize w8.drew = w9 at BK BX HB HO HI HS1 HGL HK hHeld ⊢
  refine tz_ 0 3 1 ?_
  refine tz_ 1 4 3 ?_
  refine pz_ 2 5 7 ?_
  refine pz_ 3 6 15 ?_
  refine tz_ 4 7 31 ?_
  refine tz_ 5 8 63 ?_
  refine pz_ 6 9 127 ?_
  refine pz_ 7 10 255 ?_
  refine pz_ 8 11 511 ?_
  refine tz_ 9 12 1023 ?_
  refine tz_ 10 13 2047 ?_
  refine one_ (i := 11) (N := some 14) (bz 15 4095) rfl rfl (one_of HT_.out (by kernel_rfl)) (by decide) (fun K hK => ?_)
  refine value_ (w1 := ?_) (v := ?_) (by rfl) rfl ?_ ?_
  rotate_left 2
  · go_simp
    constructor
    · rfl
    · rfl
  refine hK.out _ _ ⟨(blk_cell (blk_alloc BK.out _) 0).trans rfl, kp_ ⟨below_alloc (Below.refl _ _) _⟩ HS1.out, (blk_cell (blk_alloc BX.out _) 0).trans rfl, (blk_cell (blk_alloc BX.out _) 1).trans rfl, (blk_cell (blk_alloc BX.out _) 2).trans rfl⟩ (fun hHeld => ?_)
  clear hK K
  refine norm_ (a' := ?_) ?_ ?_
  rotate_left
  · show Act.put _ (some 14) _ = _
    simp only [Act.put, List.setIfInBounds_toArray, List.set_cons_zero, List.set_cons_succ, i64_w, i32_w]
    rfl
  refine one_ (i := 12) (N := some 15) (bz 15 8191) rfl rfl (one_of HT_.out (by kernel_rfl)) (by decide) (fun K hK => ?_)
  refine Kd.R_append_step k119 (w0 := w0) w0.heap.size (by rfl) (.tmp 12) (.tmp 14) 120 119 (.agg #[.int .u8 0, .bool false, .bool false]) 3 rfl Tryz.underlying120 iP rfl (by decide) (by omega) (.slice Ai m ci) ps x [.int .u8 x.f0, .bool x.f1, .bool x.f2] (fun k_ => (k_ ≠ gb ∧ k_ ≠ g) ∧ k_ ≠ gx) (fun _ => False) rfl rfl ?aP (fun _ hk => hk.elim) ?aF ?aO ?aB ?aS ?aL ?_
  (case aP => exact k119_mkM _ _ _ x)
  (case aB => exact bg_)
  (case aF => exact (fun k_ hk => ⟨⟨fun e_ => by have h_ := blk_lt BK.out; omega, fun e_ => by have h_ := HGL.out; omega⟩, fun e_ => by have h_ := blk_lt BX.out; omega⟩))
  (case aO => exact HI.out)
  (case aS => exact (below_size bg_))
  (case aL => have h_ := HL.out; omega)
  intro v15 w15 ho hb hg hat
  have hnb : some gb ≠ (.slice Ai m ci : Value).ownBlock := Kd.R_away HI.out (fun _ hk => hk.1.1)
  have hng : some g ≠ (.slice Ai m ci : Value).ownBlock := Kd.R_away HI.out (fun _ hk => hk.1.2)
  have hnx : some gx ≠ (.slice Ai m ci : Value).ownBlock := Kd.R_away HI.out (fun _ hk => hk.2)
  have n0_ := am_ (blk_grown (g := gb) BK.out hg hnb)
  have n1_ := am_ (blk_grown (g := gx) BX.out hg hnx)
  have n2_ := am_ hb
  have n3_ := am_ ho
  have n4_ := am_ (show Kd.R kcut 120 w15 w0.heap.size (fun k => k = g) (.slice (some ⟨g, 0, none⟩) n c) xs from Kd.R_move HO.out (fun k_ hk => by rw [show k_ = g from hk]; exact hg.block g HGL.out hng))
  have n5_ := am_ ((World.cell?_of_block (a := ⟨g, J.toNat, none⟩) (hg.block g HGL.out hng)).trans HS1.out)
  have n6_ := am_ (Nat.lt_of_lt_of_le HGL.out hg.size)
  have n7_ := am_ (show ∀ k, k < w.heap.size → some k ≠ (.slice Ai m ci : Value).ownBlock → w15.heap[k]? = w.heap[k]? from fun k hk hn => (hg.block k (Nat.lt_of_lt_of_le hk HK.out.size) hn).trans (HK.out.block k hk))
  have n8_ := am_ (show (v15 : Value).ownBlock = (.slice Ai m ci : Value).ownBlock ∨ ∃ b, (v15 : Value).ownBlock = some b ∧ w.heap.size ≤ b from hat.imp id (fun h_ => h_.elim fun b h2_ => ⟨b, h2_.1, Nat.le_trans HK.out.size h2_.2⟩))
  clear BK BX HB HI HO HS1 HGL HK hnb hng hnx ho hb hg hat
  have BK := n0_
  have BX := n1_
  have HB := n2_
  have HI := n3_
  have HO := n4_
  have HS1 := n5_
  have HGL := n6_
  have HKP := n7_
  have HOB := n8_
  clear n0_ n1_ n2_ n3_ n4_ n5_ n6_ n7_ n8_
  obtain ⟨Aj, cj, ej⟩ := Kd.R_slice HI.out
  subst ej
  obtain ⟨cl_, hcl_⟩ := Kd.R_typed HO.out g rfl
  have hfr := blk_frozen hcl_ J.toNat
  refine hK.out _ _ ⟨(bc1_0 BK), HS1.out, (bc3_0 BX), (bc3_1 BX), (bc3_2 BX)⟩ (fun hHeld => ?_)
  clear hK K
  refine norm_ (a' := ?_) ?_ ?_
  rotate_left
  · show Act.put _ (some 15) _ = _
    simp only [Act.put, List.setIfInBounds_toArray, List.set_cons_zero, List.set_cons_succ, i64_w, i32_w]
    rfl
  refine pz_ 13 16 16383 ?_
  refine last_ (i := 14) (N := none) (bz 15 32767) rfl rfl (one_of HT_.out (by kernel_rfl)) (by decide) (fun K hK => ?_)
  refine skip_ (w1 := ?_) (by rfl) rfl ?_ ?_
  rotate_left
  · go_simp
    rfl
  refine hK.out _ _ ?_
  clear hK K
  refine done_ (done_of HT_.out (by kernel_rfl)) ?_
  
  have hgb : w0.heap.size ≤ g := ((Kd.R_bound HO.out).1 g rfl).2.1
  have hne : some gb ≠ (.slice (some ⟨g, 0, none⟩) n c : Value).ownBlock := Kd.R_ne HO.out BK.out (by decide)
  have hl2 : (ps ++ [x]).length = m + 1 := by rw [List.length_append, List.length_singleton, HM.out]
  have hl3 := HM.out
  subst hl3
  refine bodyPost_end (results_none rfl _ _ _) rfl ?_
  refine ⟨⟨_, rfl⟩, below_set HB.out hgb, blk_far BK.out (fun e_ => hne (by rw [e_]; rfl)) _, Aj, cj, ?_, ?_, ?_, ?_⟩
  · exact Kd.R_putn (enc := fun x : Option Addr × Nat × Nat => .slice x.1 x.2.1 x.2.2) (h1 := fun _ => rfl) HO.out J (Aj, ps.length + 1, cj)
  · have h9 := Kd.R_mono (Kd.R_far (p := ⟨g, J.toNat, none⟩) HI.out (fun _ hk => hk.1.2) (.slice Aj (ps.length + 1) cj)) (fun _ hk => hk.1)
    rw [hl2] at h9
    exact h9
  · exact fun k_ hk hk2 hk3 => (Below.heap_setCell _ ⟨g, J.toNat, none⟩ _ k_ hk2).trans (HKP.out k_ hk hk3)
  · have h9 := HOB.out
    rw [hl2] at h9
    exact h9
theorem cut_tight {e base g n c : Nat} {w : World} {ok : Nat → Prop} {xs : List (Option Addr × Nat × Nat)} (h : Kd.R kcut e w base ok (.slice (some ⟨g, 0, none⟩) n c) xs) : Kd.R kcut e w base (fun k => k = g) (.slice (some ⟨g, 0, none⟩) n c) xs :=
  Kd.R_of_own (enc := fun x : Option Addr × Nat × Nat => .slice x.1 x.2.1 x.2.2) (h1 := fun _ => rfl) (Kd.own_of_R (enc := fun x : Option Addr × Nat × Nat => .slice x.1 x.2.1 x.2.2) (h1 := fun _ => rfl) h) (fun k hk => by simp [Value.ownBlock] at hk; exact hk.symm)
theorem cut_cell {e base g n c j : Nat} {w : World} {ok : Nat → Prop} {xs : List (Option Addr × Nat × Nat)} {x : Option Addr × Nat × Nat} (h : Kd.R kcut e w base ok (.slice (some ⟨g, 0, none⟩) n c) xs) (hx : xs[j]? = some x) : w.cell? ⟨g, j, none⟩ = some (.slice x.1 x.2.1 x.2.2) := by
  obtain ⟨h1, h2, h3⟩ := Kd.R_reads' h
  have h4 := Kd.reads_of_C (enc := fun x : Option Addr × Nat × Nat => .slice x.1 x.2.1 x.2.2) (d := (none, 0, 0)) (h1 := fun _ => rfl) h3
  obtain ⟨hj, hx⟩ := List.getElem?_eq_some_iff.1 hx
  obtain ⟨ad, e1, h5⟩ := h4.2.2 (by omega)
  cases e1
  have h6 := h5 j hj
  rw [List.getD_eq_getElem?_getD, List.getElem?_eq_getElem hj, Option.getD_some, hx, add_plain] at h6
  exact h6
theorem cut_cell3 {e base g n c j : Nat} {w : World} {ok : Nat → Prop} {xs : List (Option Addr × Nat × Nat)} {A : Option Addr} {m ci : Nat} (h : Kd.R kcut e w base ok (.slice (some ⟨g, 0, none⟩) n c) xs) (hx : xs[j]? = some (A, m, ci)) : w.cell? ⟨g, j, none⟩ = some (.slice A m ci) := cut_cell h hx
theorem four_at : ∀ b : Fin 256, decide (Lib.indexByte [42, 63, 124, 92] (UInt8.ofNat b.val) < 0) = !(okE ((b.val : Nat) : Int)) := by decide +kernel
theorem four_of {d : Int} (h0 : 0 ≤ d) (h1 : d ≤ 255) : decide (Lib.indexByte [42, 63, 124, 92] d.toNat.toUInt8 < 0) = !(okE d) := by
  have h := four_at ⟨d.toNat, by omega⟩
  simp only [Int.toNat_of_nonneg h0] at h
  exact h
/-- A code as a piece. -/
def altP (c : Int) : S119 := if c = -1 then ⟨0, false, true⟩ else if c = -2 then ⟨0, true, false⟩ else ⟨c, false, false⟩
theorem altP_bt (s : ByteArray) (i : Int) : altP (bt s i) = ⟨bt s i, false, false⟩ := by have := bt_range s i; unfold altP; rw [if_neg (by omega), if_neg (by omega)]
/-- What an append to the row in hand leaves of the rows ahead of it. -/
theorem rows_put {α : Type} {d : Kd α} {e base g gb m ci cj j : Nat} {Ai Aj : Option Addr} {w w1 : World} {xs : List (Option Addr × Nat × Nat)} {o : List (List α)} (h : Rows d e w base (fun k => k ≠ gb ∧ k ≠ g ∧ some k ≠ (.slice Ai m ci : Value).ownBlock) xs o) (hj : o.length ≤ j) (hk : ∀ k, k < w.heap.size → k ≠ g → some k ≠ (.slice Ai m ci : Value).ownBlock → w1.heap[k]? = w.heap[k]?) (hb : (.slice Aj (m + 1) cj : Value).ownBlock = (.slice Ai m ci : Value).ownBlock ∨ ∃ b, (.slice Aj (m + 1) cj : Value).ownBlock = some b ∧ w.heap.size ≤ b) : Rows d e w1 base (fun k => k ≠ gb ∧ k ≠ g ∧ some k ≠ (.slice Aj (m + 1) cj : Value).ownBlock) (xs.set j (Aj, m + 1, cj)) o := by
  refine rows_step h (fun k h1 h2 => hk k h2 h1.2.1 h1.2.2) (fun k h1 h2 => ⟨h1.1, h1.2.1, ?_⟩) (fun i hi => List.getElem?_set_ne (by omega))
  rcases hb with hb | ⟨b, hb, hle⟩
  · rw [hb]; exact h1.2.2
  · rw [hb]; intro he; injection he with he; omega
/-- A new row behind the row in hand, which stays as it is from there on. -/
theorem rows_bar {α : Type} {d : Kd α} {e base g gb m ci g2 n2 c2 n c : Nat} {Ai : Option Addr} {w w1 : World} {xs ys : List (Option Addr × Nat × Nat)} {o : List (List α)} {l : List α} (hE : d.E = []) (h : Rows d e w base (fun k => k ≠ gb ∧ k ≠ g ∧ some k ≠ (.slice Ai m ci : Value).ownBlock) xs o) (hx : xs[o.length]? = some (Ai, m, ci)) (hm : l.length = m) (hI : Kd.R d e w base (fun k => k ≠ gb ∧ k ≠ g) (.slice Ai m ci) l) (hl : o.length + 1 = xs.length)
    (hg : w.grownBy w1 (.slice (some ⟨g, 0, none⟩) n c : Value).ownBlock) (hat : (.slice (some ⟨g2, 0, none⟩) n2 c2 : Value).ownBlock = (.slice (some ⟨g, 0, none⟩) n c : Value).ownBlock ∨ ∃ b, (.slice (some ⟨g2, 0, none⟩) n2 c2 : Value).ownBlock = some b ∧ w.heap.size ≤ b) : Rows d e w1 base (fun k => k ≠ gb ∧ k ≠ g2) (xs ++ ys) (o ++ [l]) := by
  have h1 : Rows d e w base (fun k => k ≠ gb ∧ k ≠ g) xs (o ++ [l]) := rows_snoc (ok := fun k => k ≠ gb ∧ k ≠ g) hE (rows_step h (fun _ _ _ => rfl) (fun k hk _ => ⟨⟨hk.1, hk.2.1⟩, hk.2.2⟩) (fun _ _ => rfl)) hx hm hI
  refine rows_step h1 (fun k hk hlt => hg.block k hlt (fun he => hk.2 (by simpa [Value.ownBlock] using he))) (fun k hk hlt => ⟨hk.1, ?_⟩) (fun j hj => List.getElem?_append_left (by simp at hj; omega))
  rcases hat with hb | ⟨b, hb, hle⟩
  · have : g2 = g := by simpa [Value.ownBlock] using hb
    rw [this]; exact hk.2
  · have : g2 = b := by simpa [Value.ownBlock] using hb
    omega
def impl_alternatives.f (k : Nat) (a0 : ByteArray) : Option (List (List S119) × Bool) := (impl_printed.f k a0 100).bind fun t => if t = true then (if a0.size ≤ 900 then some ((altA a0 0 [] []).1.map (List.map altP), (altA a0 0 [] []).2) else none) else some ([], false)
theorem impl_alternatives.mono : ∀ a0 k, LeO (impl_alternatives.f k a0) (impl_alternatives.f (k + 1) a0) := by
  intro a0 k
  unfold impl_alternatives.f
  exact LeO.bind (impl_printed.mono _ _ _) (fun _ => LeO.refl _)
set_option maxHeartbeats 32000000 in
set_option maxRecDepth 100000 in
theorem impl_alternatives.calls (k : Nat) (a0 : ByteArray) (r1 : List (List S119)) (r2 : Bool) (w : World) (h : impl_alternatives.f k a0 = some (r1, r2)) :
    Calls Tryz.prog 93 #[.string a0] w fun e w' => ∃ v0_ : Value, e = .returned (.tuple #[v0_, .bool r2]) ∧ Kd.S (Kd.slice 119 k119) 120 w' w.heap.size (fun _ => True) v0_ r1 ∧ Below w.heap.size w w' := by
  have iS : (Tryz.prog.info? 120).map (fun i => (i.zero, i.size, i.bytes)) = some (some (.slice none 0 0), 1, 24) := by kernel_rfl
  have hu := Tryz.underlying119
  have HB := am_ (Below.refl w.heap.size w)
  unfold impl_alternatives.f at h
  obtain ⟨t, ht, h⟩ := Option.bind_eq_some_iff.mp h
  have HT := am_ ht
  clear ht
  cases t with
  | false =>
    rw [if_neg (by decide)] at h
    simp only [Option.some.injEq, Prod.mk.injEq] at h
    obtain ⟨rfl, rfl⟩ := h
    go_enter Tryz.func93, Tryz.ntmps93
    go_wp2_with (first | (go_at_call 73; refine (impl_printed.calls k a0 100 false _ HT.out).mono ?_; rintro e w' ⟨rfl, ⟨nd, rfl⟩⟩))
    go_ret2
    exact ⟨_, rf_, ni_, bl_⟩
  | true =>
    rw [if_pos rfl] at h
    by_cases hz : a0.size ≤ 900
    · rw [if_pos hz] at h
      have HZ := am_ hz
      obtain ⟨qs, hq⟩ : ∃ qs, (altA a0 0 [] []).1 = qs := ⟨_, rfl⟩
      simp only [Option.some.injEq, Prod.mk.injEq] at h
      have HR := am_ (show altA a0 0 [] [] = (qs, r2) from Prod.ext hq h.2)
      have HQ := am_ (show qs.map (List.map altP) = r1 from by rw [← hq]; exact h.1)
      clear h hz hq
      go_enter Tryz.func93, Tryz.ntmps93
      go_wp2_with (first | (go_at_call 73; refine (impl_printed.calls k a0 100 true _ HT.out).mono ?_; rintro e w' ⟨rfl, ⟨nd, rfl⟩⟩) | ((with_reducible refine gate_dst (N := 11) rfl ?_); refine Kd.R_lit kcut _ 120 ?hg (N := 11) ?hd (xs := [(none, 0, 0)]) (inner := [.slice none 0 0]) (ok := fun _ => True) (okp := fun _ => True) ?hr ?hp (fun _ hk => hk) trivial (Below.refl _ _) (Nat.le_refl _) (by simp) ?_; (case hd => rfl); (case hg => rfl); (case hr => first | (go_simp; done) | (go_simp; rfl)); (case hp => exact (Reps.one (show Kd.M kcut _ _ _ (none, 0, 0) [.slice none 0 0] from rfl) (Reps.none _ _))); intro v11 w11 ho hb hg_ hnew_; obtain ⟨g0, cp0, ev0, hz1_, hz2_, hz3_⟩ := Kd.R_form ho (by simp); subst ev0; have n0_ := am_ (cut_tight (Kd.R_lower ho (below_size bl_))); have n1_ := am_ (below_step bl_ hb); clear HB; have HO := n0_; have HB := n1_; clear n0_ n1_ ho hb hg_ hnew_ hz1_ hz2_ hz3_) | ((with_reducible refine gate_dst (N := 4) rfl ?_); refine bx_ 4 #[.slice none 0 0] 113 ?_; intro gb hg w12 hbox hb; have n0_ := am_ (Kd.R_below HO.out hb); have n1_ := am_ (below_step bl_ hb); have GE := am_ (gs_ hg : w.heap.size ≤ gb); have BK := am_ hbox; clear HO HB; have HO := n0_; have HB := n1_; clear n0_ n1_ hb hbox hg; have hcz1_0 := bc1_0 BK; have hfz1_0 := bf_ BK 0))
      have hne0 : g0 ≠ gb := fun e_ => Kd.R_ne HO.out BK.out (by decide) (by rw [e_]; rfl)
      have HNE := am_ hne0
      clear hne0 hcz1_0 hfz1_0
      go_loopg [6] a0.size (fun gg v6 w' => ∃ (g n c : Nat) (xs : List (Option Addr × Nat × Nat)) (Ai : Option Addr) (m ci : Nat) (o : List (List Int)) (nw : List Int) (i : Nat), v6 = .int .i64 (i : Int) ∧ Aside0 (n = xs.length ∧ 1 ≤ n ∧ n ≤ i + 1 ∧ m ≤ i ∧ nw.length = m ∧ i ≤ a0.size ∧ a0.size ≤ 900 ∧ xs[n - 1]? = some (Ai, m, ci) ∧ a0.size - i ≤ gg ∧ o.length + 1 = n) ∧ Aside0 (altA a0 i o nw = (qs, r2)) ∧ Aside0 (w'.heap[gb]? = some (.cells #[.slice (some ⟨g, 0, none⟩) n c] 113 (0, 0))) ∧ Aside0 (g ≠ gb) ∧ Aside0 (Kd.R kcut 120 w' w.heap.size (fun k => k = g) (.slice (some ⟨g, 0, none⟩) n c) xs) ∧ Aside0 (Kd.R k119 119 w' w.heap.size (fun k => k ≠ gb ∧ k ≠ g) (.slice Ai m ci) (nw.map altP)) ∧ Aside0 (Rows k119 119 w' w.heap.size (fun k => k ≠ gb ∧ k ≠ g ∧ some k ≠ (.slice Ai m ci : Value).ownBlock) xs (o.map (List.map altP))) ∧ Aside0 (Below w.heap.size w w'))
      case atStart => exact ⟨g0, 1, cp0, [(none, 0, 0)], none, 0, 0, [], [], 0, rs_, ⟨by have := HZ.out; simp; omega⟩, HR, ⟨blk_put (cs := #[.slice none 0 0]) BK.out 0 _ rfl⟩, HNE, ⟨Kd.R_far (p := ⟨gb, 0, none⟩) HO.out (fun k_ hk => by rw [show k_ = g0 from hk]; exact HNE.out) _⟩, ⟨Kd.R_nil _ _ _ _ _⟩, ⟨rows_nil _ _ _ _ _ _⟩, ⟨below_set HB.out GE.out⟩⟩
      case round =>
        obtain ⟨g, n, c, xs, Ai, m, ci, o, nw, i, rfl, HL, HA, BK, HNE, HO, HI, HS, HB⟩ := hrel
        obtain ⟨I, hI⟩ : ∃ I : Int, (i : Int) = I := ⟨_, rfl⟩
        rw [hI]
        have HIq := am_ hI
        have hcz2_0 := bc1_0 BK
        have hfz2_0 := bf_ BK 0
        by_cases c4 : I < (a0.size : Int)
        · have c4b0 : decide (I < (a0.size : Int)) = true := decide_eq_true c4
          have hI0 : 0 ≤ I := by omega
          have hx6 := bt_at a0 I
          have p6 := eq_true hI0
          have q6 := eq_true c4
          have HIL := am_ c4
          clear c4 hI0 hI
          by_cases d124 : bt a0 I = 124
          · have c124b0 : (bt a0 I == 124) = true := beq_iff_eq.mpr d124
            have HN := am_ d124
            clear d124
            have HS0 := am_ (show xs[(o.map (List.map altP)).length]? = some (Ai, m, ci) from by have h_ := HL.out.2.2.2.2.2.2.2.1; have h2_ := HL.out; rw [List.length_map, show o.length = n - 1 from by omega]; exact h_)
            go_wp2_with (first | ((with_reducible refine gate_builtin (b := .append) (xs := #[.tmp 29, .tmp 30]) rfl ?_); at_builtin; refine Kd.R_append kcut (w0 := w) w.heap.size rfl (.tmp 29) (.tmp 30) 113 120 (.slice none 0 0) 24 rfl Tryz.underlying113 iS rfl (by decide) (by omega) (.slice (some ⟨g, 0, none⟩) n c) xs (none, 0, 0) [.slice none 0 0] (fun k_ => k_ ≠ gb) (fun _ => False) rfl rfl ?aP (fun _ hk => hk.elim) ?aF ?aO ?aB ?aS ?aL ?_; (case aP => exact rfl); (case aB => exact bl_); (case aF => exact (fun k_ hk e_ => by have h_ := blk_lt BK.out; omega)); (case aO => exact Kd.R_mono (show Kd.R kcut 120 _ w.heap.size (fun k => k = g) (.slice (some ⟨g, 0, none⟩) n c) xs from ro_ HO) (fun k_ hk => by rw [show k_ = g from hk]; exact HNE.out)); (case aS => exact (below_size bl_)); (case aL => have := HL.out; omega); intro v31 w31 ho hb hg hat; obtain ⟨g2, cp2, ev2, hz1_, hz2_, hz3_⟩ := Kd.R_form ho (by simp); subst ev2; have n0_ := am_ (show g2 ≠ gb from ho.1 g2 rfl); have n1_ := am_ (cut_tight ho); have n2_ := am_ hb; have n3_ := am_ (blk_grown (g := gb) (o := .cells #[.slice (some ⟨g, 0, none⟩) n c] 113 (0, 0)) (vk_ BK) hg (fun e_ => HNE.out (by simp [Value.ownBlock] at e_; exact e_.symm))); have n4_ := am_ (rows_bar (ys := [(none, 0, 0)]) (l := (nw.map altP)) rfl (show Rows k119 119 _ w.heap.size (fun k => k ≠ gb ∧ k ≠ g ∧ some k ≠ (.slice Ai m ci : Value).ownBlock) xs (o.map (List.map altP)) from rq_ HS) HS0.out (by rw [List.length_map]; exact HL.out.2.2.2.2.1) (show Kd.R k119 119 _ w.heap.size (fun k => k ≠ gb ∧ k ≠ g) (.slice Ai m ci) (nw.map altP) from ro_ HI) (by have := HL.out; rw [List.length_map]; omega) hg hat); clear HO HB BK HNE HI HS; have HNE := n0_; have HO := n1_; have HB := n2_; have BK := n3_; have HS := n4_; clear n0_ n1_ n2_ n3_ n4_ ho hb hg hat hz1_ hz2_ hz3_; have hcz3_0 := bc1_0 BK; have hfz3_0 := bf_ BK 0))
            go_roundg (a0.size - (i + 1))
            case measure => have h1_ := HIq.out; have h2_ := HL.out; have h3_ := HIL.out; omega
            case rel => exact ⟨g2, xs.length + 1, cp2, xs ++ [(none, 0, 0)], none, 0, 0, o ++ [nw], [], i + 1, (by first | rfl | (have h1_ := HIq.out; have h2_ := HL.out; have h3_ := HIL.out;  congr 1; unfold wrap64; omega)), ⟨by have h1_ := HIq.out; have h2_ := HL.out; have h3_ := HIL.out;  refine ⟨by simp, by omega, by omega, by omega, rfl, by omega, by omega, ?_, by omega, by simp; omega⟩; simp⟩, ⟨(altA_bar (by have h1_ := HIq.out; have h3_ := HIL.out; omega) (by rw [HIq.out]; exact HN.out)).symm.trans HA.out⟩, ⟨blk_put (cs := #[.slice (some ⟨g, 0, none⟩) n c]) BK.out 0 _ rfl⟩, HNE, ⟨by have h8 := HO.out; rw [List.length_append, List.length_singleton] at h8; exact Kd.R_far (p := ⟨gb, 0, none⟩) h8 (fun k_ hk => by rw [show k_ = g2 from hk]; exact HNE.out) _⟩, ⟨Kd.R_nil _ _ _ _ _⟩, ⟨by rw [List.map_append, List.map_singleton]; exact rows_step HS.out (fun k_ hk _ => Below.heap_setCell _ ⟨gb, 0, none⟩ _ k_ hk.1) (fun k_ hk _ => ⟨hk.1, hk.2, by simp [Value.ownBlock]⟩) (fun _ _ => rfl)⟩, ⟨below_set HB.out GE.out⟩⟩
          · have c124b0 : (bt a0 I == 124) = false := beq_eq_false_iff_ne.mpr d124
            by_cases d42 : bt a0 I = 42
            · have c42b0 : (bt a0 I == 42) = true := beq_iff_eq.mpr d42
              have HN := am_ d42
              clear d42
              have HS0 := am_ (show xs[((n : Int) - 1).toNat]? = some (Ai, m, ci) from by have h_ := HL.out.2.2.2.2.2.2.2.1; have h2_ := HL.out.2.1; rw [show ((n : Int) - 1).toNat = n - 1 from by omega]; exact h_)
              go_wp2_with (first | (go_at_call 100; refine (impl_put.calls (⟨0, false, true⟩ : S119) gb g n c m ((n : Int) - 1) xs Ai ci (nw.map altP) w _ HB.out rfl (by have := HL.out; omega) (by have := HL.out; omega) (by rw [List.length_map]; exact HL.out.2.2.2.2.1) (by have := HL.out; omega) BK.out (cut_cell3 HO.out HS0.out) HO.out HI.out).mono ?_; rintro e w20 ⟨⟨v20, rfl⟩, hb, hbk, Aj, cj, hO, hI2, hk2, ho2⟩; have n0_ := am_ hb; have n1_ := am_ hbk; have n2_ := am_ hO; have n3_ := am_ hI2; have n4_ := am_ (rows_put (j := ((n : Int) - 1).toNat) HS.out (by have := HL.out; rw [List.length_map]; omega) hk2 ho2); clear HB BK HO HI HS; have HB := n0_; have BK := n1_; have HO := n2_; have HI := n3_; have HS := n4_; clear n0_ n1_ n2_ n3_ n4_ hb hbk hO hI2 hk2 ho2))
              go_roundg (a0.size - (i + 1))
              case measure => have h1_ := HIq.out; have h2_ := HL.out; have h3_ := HIL.out; omega
              case rel => exact ⟨g, n, c, xs.set ((n : Int) - 1).toNat (Aj, m + 1, cj), Aj, m + 1, cj, o, nw ++ [-1], i + 1, (by first | rfl | (have h1_ := HIq.out; have h2_ := HL.out; have h3_ := HIL.out;  congr 1; unfold wrap64; omega)), ⟨by have h1_ := HIq.out; have h2_ := HL.out; have h3_ := HIL.out;  refine ⟨by rw [List.length_set]; omega, by omega, by omega, by omega, by rw [List.length_append, List.length_singleton]; omega, by omega, by omega, ?_, by omega, by omega⟩; rw [show ((n : Int) - 1).toNat = n - 1 from by omega]; exact List.getElem?_set_self (by omega)⟩, ⟨(altA_star (by have h1_ := HIq.out; have h3_ := HIL.out; omega) (by rw [HIq.out]; exact HN.out)).symm.trans HA.out⟩, BK, HNE, HO, ⟨by have h_ := HI.out; rw [← show altP (-1) = (⟨0, false, true⟩ : S119) from rfl, ← List.map_singleton, ← List.map_append] at h_; exact h_⟩, HS, HB⟩
            · have c42b0 : (bt a0 I == 42) = false := beq_eq_false_iff_ne.mpr d42
              by_cases d63 : bt a0 I = 63
              · have c63b0 : (bt a0 I == 63) = true := beq_iff_eq.mpr d63
                have HN := am_ d63
                clear d63
                have HS0 := am_ (show xs[((n : Int) - 1).toNat]? = some (Ai, m, ci) from by have h_ := HL.out.2.2.2.2.2.2.2.1; have h2_ := HL.out.2.1; rw [show ((n : Int) - 1).toNat = n - 1 from by omega]; exact h_)
                go_wp2_with (first | (go_at_call 100; refine (impl_put.calls (⟨0, true, false⟩ : S119) gb g n c m ((n : Int) - 1) xs Ai ci (nw.map altP) w _ HB.out rfl (by have := HL.out; omega) (by have := HL.out; omega) (by rw [List.length_map]; exact HL.out.2.2.2.2.1) (by have := HL.out; omega) BK.out (cut_cell3 HO.out HS0.out) HO.out HI.out).mono ?_; rintro e w20 ⟨⟨v20, rfl⟩, hb, hbk, Aj, cj, hO, hI2, hk2, ho2⟩; have n0_ := am_ hb; have n1_ := am_ hbk; have n2_ := am_ hO; have n3_ := am_ hI2; have n4_ := am_ (rows_put (j := ((n : Int) - 1).toNat) HS.out (by have := HL.out; rw [List.length_map]; omega) hk2 ho2); clear HB BK HO HI HS; have HB := n0_; have BK := n1_; have HO := n2_; have HI := n3_; have HS := n4_; clear n0_ n1_ n2_ n3_ n4_ hb hbk hO hI2 hk2 ho2))
                go_roundg (a0.size - (i + 1))
                case measure => have h1_ := HIq.out; have h2_ := HL.out; have h3_ := HIL.out; omega
                case rel => exact ⟨g, n, c, xs.set ((n : Int) - 1).toNat (Aj, m + 1, cj), Aj, m + 1, cj, o, nw ++ [-2], i + 1, (by first | rfl | (have h1_ := HIq.out; have h2_ := HL.out; have h3_ := HIL.out;  congr 1; unfold wrap64; omega)), ⟨by have h1_ := HIq.out; have h2_ := HL.out; have h3_ := HIL.out;  refine ⟨by rw [List.length_set]; omega, by omega, by omega, by omega, by rw [List.length_append, List.length_singleton]; omega, by omega, by omega, ?_, by omega, by omega⟩; rw [show ((n : Int) - 1).toNat = n - 1 from by omega]; exact List.getElem?_set_self (by omega)⟩, ⟨(altA_any (by have h1_ := HIq.out; have h3_ := HIL.out; omega) (by rw [HIq.out]; exact HN.out)).symm.trans HA.out⟩, BK, HNE, HO, ⟨by have h_ := HI.out; rw [← show altP (-2) = (⟨0, true, false⟩ : S119) from rfl, ← List.map_singleton, ← List.map_append] at h_; exact h_⟩, HS, HB⟩
              · have c63b0 : (bt a0 I == 63) = false := beq_eq_false_iff_ne.mpr d63
                by_cases d92 : bt a0 I = 92
                · have c92b0 : (bt a0 I == 92) = true := beq_iff_eq.mpr d92
                  have H92 := am_ (show bt a0 (i : Int) = 92 by rw [HIq.out]; exact d92)
                  obtain ⟨J, hJ⟩ : ∃ J : Int, I + 1 = J := ⟨_, rfl⟩
                  have hJw : IntKind.i64.wrap (I + 1) = J := by have h1_ := HIq.out; have h2_ := HL.out; rw [IntKind.wrap_i64]; omega
                  have hJv : wrap64 (I + 1) = J := by have h1_ := HIq.out; have h2_ := HL.out; unfold wrap64; omega
                  have HJ := am_ (show ((i + 1 : Nat) : Int) = J by have h1_ := HIq.out; omega)
                  clear d92 d124 d42 d63 hJ
                  by_cases e1 : J = (a0.size : Int)
                  · have e1b0 : (J == (a0.size : Int)) = true := beq_iff_eq.mpr e1
                    obtain ⟨rfl, rfl⟩ : qs = [] ∧ r2 = false := by have h := (altA_cut (by have h1_ := HIq.out; have h3_ := HIL.out; omega) H92.out (by have h1_ := HJ.out; omega)).symm.trans HA.out; simp only [Prod.mk.injEq] at h; exact ⟨h.1.symm, h.2.symm⟩
                    obtain rfl : r1 = [] := HQ.out.symm
                    clear e1
                    go_wp2
                    go_ret2
                    exact ⟨_, rf_, ni_, bl_⟩
                  · have e1b0 : (J == (a0.size : Int)) = false := beq_eq_false_iff_ne.mpr e1
                    have j1 : J < (a0.size : Int) := by have h1_ := HJ.out; have h2_ := HIL.out; have h3_ := HIq.out; omega
                    have j0 : 0 ≤ J := by have h1_ := HJ.out; omega
                    have HE := am_ ((altA_esc (s := a0) (i := i) (by have h1_ := HJ.out; omega) H92.out).symm.trans HA.out)
                    have HJL := am_ j1
                    have hx7 := bt_at a0 J
                    have p7 := eq_true j0
                    have q7 := eq_true j1
                    have hrg := bt_range a0 J
                    have h4q := four_of hrg.1 hrg.2
                    obtain ⟨Z, hZ⟩ : ∃ Z : Int, (Lib.indexByte (⟨#[42, 63, 124, 92]⟩ : ByteArray).data.toList (bt a0 J).toNat.toUInt8) = Z := ⟨_, rfl⟩
                    have HZZ := am_ (show strings_IndexByte.f (⟨#[42, 63, 124, 92]⟩ : ByteArray) (bt a0 J) = some Z from by unfold strings_IndexByte.f; rw [← hZ])
                    have h4z : decide (Z < 0) = !(okE (bt a0 J)) := by rw [← hZ]; exact h4q
                    clear j0 j1 e1 hrg h4q hZ
                    cases hk : okE (bt a0 J) with
                    | false =>
                      rw [hk] at h4z
                      have z0 : decide (Z < 0) = true := h4z
                      obtain ⟨rfl, rfl⟩ : qs = [] ∧ r2 = false := by have h := HE.out; rw [HJ.out, hk, if_neg (by decide)] at h; simp only [Prod.mk.injEq] at h; exact ⟨h.1.symm, h.2.symm⟩
                      obtain rfl : r1 = [] := HQ.out.symm
                      clear h4z hk
                      go_wp2_with (first | (go_at_call 101; refine (strings_IndexByte.calls (⟨#[42, 63, 124, 92]⟩ : ByteArray) (bt a0 J) Z _ HZZ.out).mono ?_; rintro e w' ⟨rfl, ⟨nd, rfl⟩⟩; replace BK := am_ (blk_drewN BK.out nd); replace HO := am_ (Kd.R_drewN HO.out nd); replace HI := am_ (Kd.R_drewN HI.out nd); replace HS := am_ (rows_drewN HS.out nd); replace HB := am_ (pw_below_drewN HB.out nd)))
                      go_ret2
                      exact ⟨_, rf_, ni_, bl_⟩
                    | true =>
                      rw [hk] at h4z
                      have z0 : decide (Z < 0) = false := h4z
                      have HK := am_ hk
                      clear h4z hk
                      have HS0 := am_ (show xs[((n : Int) - 1).toNat]? = some (Ai, m, ci) from by have h_ := HL.out.2.2.2.2.2.2.2.1; have h2_ := HL.out.2.1; rw [show ((n : Int) - 1).toNat = n - 1 from by omega]; exact h_)
                      go_wp2_with (first | (go_at_call 101; refine (strings_IndexByte.calls (⟨#[42, 63, 124, 92]⟩ : ByteArray) (bt a0 J) Z _ HZZ.out).mono ?_; rintro e w' ⟨rfl, ⟨nd, rfl⟩⟩; replace BK := am_ (blk_drewN BK.out nd); replace HO := am_ (Kd.R_drewN HO.out nd); replace HI := am_ (Kd.R_drewN HI.out nd); replace HS := am_ (rows_drewN HS.out nd); replace HB := am_ (pw_below_drewN HB.out nd)) | (go_at_call 100; refine (impl_put.calls (⟨bt a0 J, false, false⟩ : S119) gb g n c m ((n : Int) - 1) xs Ai ci (nw.map altP) w _ HB.out rfl (by have := HL.out; omega) (by have := HL.out; omega) (by rw [List.length_map]; exact HL.out.2.2.2.2.1) (by have := HL.out; omega) BK.out (cut_cell3 HO.out HS0.out) HO.out HI.out).mono ?_; rintro e w20 ⟨⟨v20, rfl⟩, hb, hbk, Aj, cj, hO, hI2, hk2, ho2⟩; have n0_ := am_ hb; have n1_ := am_ hbk; have n2_ := am_ hO; have n3_ := am_ hI2; have n4_ := am_ (rows_put (j := ((n : Int) - 1).toNat) HS.out (by have := HL.out; rw [List.length_map]; omega) hk2 ho2); clear HB BK HO HI HS; have HB := n0_; have BK := n1_; have HO := n2_; have HI := n3_; have HS := n4_; clear n0_ n1_ n2_ n3_ n4_ hb hbk hO hI2 hk2 ho2))
                      go_roundg (a0.size - (i + 2))
                      case measure => have h1_ := HIq.out; have h2_ := HL.out; have h3_ := HIL.out; omega
                      case rel => exact ⟨g, n, c, xs.set ((n : Int) - 1).toNat (Aj, m + 1, cj), Aj, m + 1, cj, o, nw ++ [bt a0 J], i + 2, (by first | rfl | (have h1_ := HIq.out; have h2_ := HL.out; have h3_ := HIL.out; have h4_ := HJ.out; have h5_ := HJL.out;  congr 1; unfold wrap64; omega)), ⟨by have h1_ := HIq.out; have h2_ := HL.out; have h3_ := HIL.out; have h4_ := HJ.out; have h5_ := HJL.out;  refine ⟨by rw [List.length_set]; omega, by omega, by omega, by omega, by rw [List.length_append, List.length_singleton]; omega, by omega, by omega, ?_, by omega, by omega⟩; rw [show ((n : Int) - 1).toNat = n - 1 from by omega]; exact List.getElem?_set_self (by omega)⟩, ⟨by have h := HE.out; rw [HJ.out, HK.out, if_pos rfl] at h; exact h⟩, BK, HNE, HO, ⟨by have h_ := HI.out; rw [← show altP (bt a0 J) = (⟨bt a0 J, false, false⟩ : S119) from altP_bt _ _, ← List.map_singleton, ← List.map_append] at h_; exact h_⟩, HS, HB⟩
                · have c92b0 : (bt a0 I == 92) = false := beq_eq_false_iff_ne.mpr d92
                  have HN := am_ (And.intro d124 (And.intro d42 (And.intro d63 d92)))
                  clear d92 d124 d42 d63
                  have HS0 := am_ (show xs[((n : Int) - 1).toNat]? = some (Ai, m, ci) from by have h_ := HL.out.2.2.2.2.2.2.2.1; have h2_ := HL.out.2.1; rw [show ((n : Int) - 1).toNat = n - 1 from by omega]; exact h_)
                  go_wp2_with (first | (go_at_call 100; refine (impl_put.calls (⟨bt a0 I, false, false⟩ : S119) gb g n c m ((n : Int) - 1) xs Ai ci (nw.map altP) w _ HB.out rfl (by have := HL.out; omega) (by have := HL.out; omega) (by rw [List.length_map]; exact HL.out.2.2.2.2.1) (by have := HL.out; omega) BK.out (cut_cell3 HO.out HS0.out) HO.out HI.out).mono ?_; rintro e w20 ⟨⟨v20, rfl⟩, hb, hbk, Aj, cj, hO, hI2, hk2, ho2⟩; have n0_ := am_ hb; have n1_ := am_ hbk; have n2_ := am_ hO; have n3_ := am_ hI2; have n4_ := am_ (rows_put (j := ((n : Int) - 1).toNat) HS.out (by have := HL.out; rw [List.length_map]; omega) hk2 ho2); clear HB BK HO HI HS; have HB := n0_; have BK := n1_; have HO := n2_; have HI := n3_; have HS := n4_; clear n0_ n1_ n2_ n3_ n4_ hb hbk hO hI2 hk2 ho2))
                  go_roundg (a0.size - (i + 1))
                  case measure => have h1_ := HIq.out; have h2_ := HL.out; have h3_ := HIL.out; omega
                  case rel => exact ⟨g, n, c, xs.set ((n : Int) - 1).toNat (Aj, m + 1, cj), Aj, m + 1, cj, o, nw ++ [bt a0 I], i + 1, (by first | rfl | (have h1_ := HIq.out; have h2_ := HL.out; have h3_ := HIL.out;  congr 1; unfold wrap64; omega)), ⟨by have h1_ := HIq.out; have h2_ := HL.out; have h3_ := HIL.out;  refine ⟨by rw [List.length_set]; omega, by omega, by omega, by omega, by rw [List.length_append, List.length_singleton]; omega, by omega, by omega, ?_, by omega, by omega⟩; rw [show ((n : Int) - 1).toNat = n - 1 from by omega]; exact List.getElem?_set_self (by omega)⟩, ⟨by rw [← HIq.out]; exact (altA_on (by have h1_ := HIq.out; have h3_ := HIL.out; omega) (by rw [HIq.out]; exact HN.out.1) (by rw [HIq.out]; exact HN.out.2.1) (by rw [HIq.out]; exact HN.out.2.2.1) (by rw [HIq.out]; exact HN.out.2.2.2)).symm.trans HA.out⟩, BK, HNE, HO, ⟨by have h_ := HI.out; rw [← show altP (bt a0 I) = (⟨bt a0 I, false, false⟩ : S119) from altP_bt _ _, ← List.map_singleton, ← List.map_append] at h_; exact h_⟩, HS, HB⟩
        · have c4b0 : decide (I < (a0.size : Int)) = false := decide_eq_false c4
          obtain ⟨rfl, rfl⟩ : qs = o ++ [nw] ∧ r2 = true := by have h := (altA_end (o := o) (nw := nw) (show ¬ i < a0.size by omega)).symm.trans HA.out; simp only [Prod.mk.injEq] at h; exact ⟨h.1.symm, h.2.symm⟩
          have HF := am_ (show Kd.S (Kd.slice 119 k119) 120 _ w.heap.size (fun _ => True) (.slice (some ⟨g, 0, none⟩) n c) r1 from by rw [← HQ.out, List.map_append, List.map_singleton]; exact rows_R (rows_snoc (ok := fun k => k ≠ g) rfl (rows_step HS.out (fun _ _ _ => rfl) (fun k_ hk _ => ⟨hk.2.1, hk.2.2⟩) (fun _ _ => rfl)) (by have h_ := HL.out.2.2.2.2.2.2.2.1; have h2_ := HL.out; rw [List.length_map, show o.length = n - 1 from by omega]; exact h_) (by rw [List.length_map]; exact HL.out.2.2.2.2.1) (Kd.R_mono HI.out (fun _ hk => hk.2))) (by have h2_ := HL.out; simp; omega) HO.out)
          clear c4 hI
          go_wp2
          go_ret2
          exact ⟨_, rf_, sq_ HF, bl_⟩
    · rw [if_neg hz] at h
      cases h

/-! ### impl_GoodPattern: function 74 -/
def impl_GoodPattern.f (k : Nat) (a0 : ByteArray) : Option (Bool) := (impl_alternatives.f k a0).bind fun bt1001 => (some bt1001.2)
theorem impl_GoodPattern.mono : ∀ a0 k, LeO (impl_GoodPattern.f k a0) (impl_GoodPattern.f (k + 1) a0) := by
 intro a0 k
 unfold impl_GoodPattern.f
 repeat' with_reducible first | apply impl_alternatives.mono | apply LeO.refl | apply LeO.none | apply LeO.ite | refine LeO.bind ?_ (fun _ => ?_)
set_option maxHeartbeats 8000000 in
set_option maxRecDepth 100000 in
theorem impl_GoodPattern.calls (k : Nat) (a0 : ByteArray) (r : Bool) (w : World) (h : impl_GoodPattern.f k a0 = some r) :
  Calls Tryz.prog 74 #[.string a0] w fun e w' => e = .returned (.bool r) ∧ Below w.heap.size w w' := by
 have HB := am_ (Below.refl w.heap.size w); have H := h; clear h; unfold impl_GoodPattern.f at H; obtain ⟨⟨t1001, t1002⟩, A2, H⟩ := bs_ H; replace H : (some t1002) = some r := H; obtain rfl := si_ H; go_enter Tryz.func74, Tryz.ntmps74; go_wp2_with (first | ((with_reducible refine gate_callee (f := 93) rfl ?_); refine gl_ 7 Tryz.func93 #[.string a0] ?_; (with_reducible refine (impl_alternatives.calls k a0 t1001 t1002 _ A2.out).mono ?_); rintro e w3 ⟨v1003, rfl, ho0, hb⟩; refine ⟨_, rfl, ?_⟩; have HO1004 := am_ (Kd.S_lower ho0 (below_size bl_)); replace HB := am_ (below_step bl_ hb); (try clear hb); (try clear ho0))); go_ret; exact ⟨rf_, bl_⟩

/-! ### impl_goodMatcher: function 49 -/
def impl_goodMatcher.f (k : Nat) (a0_0 : ByteArray) (a0_1 : Int) (a0_2 : ByteArray) : Option (Bool) := (impl_isName.f k a0_0).bind fun t1002 => (if t1002 = true then (if a0_1 < 1 then (some false) else (if a0_1 > 4 then (some false) else ((impl_printed.f k a0_2 100).bind fun t1003 => (if t1003 = true then (if a0_1 < 3 then (some true) else ((impl_GoodPattern.f k a0_2).bind fun t1004 => (some t1004))) else (some false))))) else (some false))
theorem impl_goodMatcher.mono : ∀ a0 a1 a2 k, LeO (impl_goodMatcher.f k a0 a1 a2) (impl_goodMatcher.f (k + 1) a0 a1 a2) := by
 intro a0 a1 a2 k
 unfold impl_goodMatcher.f
 repeat' with_reducible first | apply impl_GoodPattern.mono | apply impl_isName.mono | apply impl_printed.mono | apply LeO.refl | apply LeO.none | apply LeO.ite | refine LeO.bind ?_ (fun _ => ?_)
set_option maxHeartbeats 8000000 in
set_option maxRecDepth 100000 in
theorem impl_goodMatcher.calls (k : Nat) (a0_0 : ByteArray) (a0_1 : Int) (a0_2 : ByteArray) (r : Bool) (w : World) (h : impl_goodMatcher.f k a0_0 a0_1 a0_2 = some r) :
  Calls Tryz.prog 49 #[.agg #[.string a0_0, .int .i64 a0_1, .string a0_2]] w fun e w' => e = .returned (.bool r) ∧ Below w.heap.size w w' := by
 have hu50 := Tryz.underlying50; have HB := am_ (Below.refl w.heap.size w); have H := h; clear h; unfold impl_goodMatcher.f at H; obtain ⟨t1002, A2, H⟩ := bs_ H
 by_cases c3 : t1002 = true
 ·subst c3; replace H := it_ H
  by_cases c4 : a0_1 < 1
  ·rw [if_pos c4] at H; have c4b0 := decide_eq_true c4; clear c4; obtain rfl := si_ H; go_enter Tryz.func49, Tryz.ntmps49; go_wp2_with (first | ((with_reducible refine gate_dst (N := 1) rfl ?_); refine bx_ 1 #[.string a0_0, .int .i64 a0_1, .string a0_2] 50 ?_; intro gb1001 hg w5 hbox hb; have BK1001 := am_ (hbox); have GW1001 := am_ (gs_ hg : w.heap.size ≤ gb1001); replace HB := am_ (below_step bl_ hb); have GE1001 := GW1001; clear hb hbox hg; have hz6 := bk3_ BK1001) | ((with_reducible refine gate_callee (f := 72) rfl ?_); refine gl_ 5 Tryz.func72 #[.string a0_0] ?_; (with_reducible refine (impl_isName.calls k a0_0 true _ A2.out).mono ?_); rintro e w' ⟨rfl, ⟨nd, rfl⟩⟩; refine ⟨_, rfl, ?_⟩)); go_ret; exact ⟨rf_, bg_⟩
  ·rw [if_neg c4] at H; have c4b0 := decide_eq_false c4; clear c4
   by_cases c7 : a0_1 > 4
   ·rw [if_pos c7] at H; have c7b0 := dg_ c7; clear c7; obtain rfl := si_ H; go_enter Tryz.func49, Tryz.ntmps49; go_wp2_with (first | ((with_reducible refine gate_dst (N := 1) rfl ?_); refine bx_ 1 #[.string a0_0, .int .i64 a0_1, .string a0_2] 50 ?_; intro gb1001 hg w8 hbox hb; have BK1001 := am_ (hbox); have GW1001 := am_ (gs_ hg : w.heap.size ≤ gb1001); replace HB := am_ (below_step bl_ hb); have GE1001 := GW1001; clear hb hbox hg; have hz9 := bk3_ BK1001) | ((with_reducible refine gate_callee (f := 72) rfl ?_); refine gl_ 5 Tryz.func72 #[.string a0_0] ?_; (with_reducible refine (impl_isName.calls k a0_0 true _ A2.out).mono ?_); rintro e w' ⟨rfl, ⟨nd, rfl⟩⟩; refine ⟨_, rfl, ?_⟩)); go_ret; exact ⟨rf_, bg_⟩
   ·rw [if_neg c7] at H; have c7b0 := df_ c7; clear c7; obtain ⟨t1003, A10, H⟩ := bs_ H
    by_cases c11 : t1003 = true
    ·subst c11; replace H := it_ H
     by_cases c12 : a0_1 < 3
     ·rw [if_pos c12] at H; have c12b0 := decide_eq_true c12; clear c12; obtain rfl := si_ H; go_enter Tryz.func49, Tryz.ntmps49; go_wp2_with (first | ((with_reducible refine gate_dst (N := 1) rfl ?_); refine bx_ 1 #[.string a0_0, .int .i64 a0_1, .string a0_2] 50 ?_; intro gb1001 hg w13 hbox hb; have BK1001 := am_ (hbox); have GW1001 := am_ (gs_ hg : w.heap.size ≤ gb1001); replace HB := am_ (below_step bl_ hb); have GE1001 := GW1001; clear hb hbox hg; have hz14 := bk3_ BK1001) | ((with_reducible refine gate_callee (f := 72) rfl ?_); refine gl_ 5 Tryz.func72 #[.string a0_0] ?_; (with_reducible refine (impl_isName.calls k a0_0 true _ A2.out).mono ?_); rintro e w' ⟨rfl, ⟨nd, rfl⟩⟩; refine ⟨_, rfl, ?_⟩) | (go_at_call 73; (with_reducible refine (impl_printed.calls k a0_2 100 true _ A10.out).mono ?_); rintro e w' ⟨rfl, ⟨nd, rfl⟩⟩)); go_ret; exact ⟨rf_, bg_⟩
     ·rw [if_neg c12] at H; have c12b0 := decide_eq_false c12; clear c12; obtain ⟨t1004, A15, H⟩ := bs_ H; obtain rfl := si_ H; go_enter Tryz.func49, Tryz.ntmps49; go_wp2_with (first | ((with_reducible refine gate_dst (N := 1) rfl ?_); refine bx_ 1 #[.string a0_0, .int .i64 a0_1, .string a0_2] 50 ?_; intro gb1001 hg w16 hbox hb; have BK1001 := am_ (hbox); have GW1001 := am_ (gs_ hg : w.heap.size ≤ gb1001); replace HB := am_ (below_step bl_ hb); have GE1001 := GW1001; clear hb hbox hg; have hz17 := bk3_ BK1001) | ((with_reducible refine gate_callee (f := 72) rfl ?_); refine gl_ 5 Tryz.func72 #[.string a0_0] ?_; (with_reducible refine (impl_isName.calls k a0_0 true _ A2.out).mono ?_); rintro e w' ⟨rfl, ⟨nd, rfl⟩⟩; refine ⟨_, rfl, ?_⟩) | (go_at_call 73; (with_reducible refine (impl_printed.calls k a0_2 100 true _ A10.out).mono ?_); rintro e w' ⟨rfl, ⟨nd, rfl⟩⟩) | (go_at_call 74; (with_reducible refine (impl_GoodPattern.calls k a0_2 t1004 _ A15.out).mono ?_); rintro e w18 ⟨rfl, hb⟩; replace BK1001 := vb_ BK1001 hb; replace HB := am_ (below_step bg_ hb); (try clear hb))); go_ret; exact ⟨rf_, bg_⟩
    ·replace c11 := Bool.eq_false_iff.mpr c11; subst c11; replace H := if_ H; obtain rfl := si_ H; go_enter Tryz.func49, Tryz.ntmps49; go_wp2_with (first | ((with_reducible refine gate_dst (N := 1) rfl ?_); refine bx_ 1 #[.string a0_0, .int .i64 a0_1, .string a0_2] 50 ?_; intro gb1001 hg w19 hbox hb; have BK1001 := am_ (hbox); have GW1001 := am_ (gs_ hg : w.heap.size ≤ gb1001); replace HB := am_ (below_step bl_ hb); have GE1001 := GW1001; clear hb hbox hg; have hz20 := bk3_ BK1001) | ((with_reducible refine gate_callee (f := 72) rfl ?_); refine gl_ 5 Tryz.func72 #[.string a0_0] ?_; (with_reducible refine (impl_isName.calls k a0_0 true _ A2.out).mono ?_); rintro e w' ⟨rfl, ⟨nd, rfl⟩⟩; refine ⟨_, rfl, ?_⟩) | (go_at_call 73; (with_reducible refine (impl_printed.calls k a0_2 100 false _ A10.out).mono ?_); rintro e w' ⟨rfl, ⟨nd, rfl⟩⟩)); go_ret; exact ⟨rf_, bg_⟩
 ·replace c3 := Bool.eq_false_iff.mpr c3; subst c3; replace H := if_ H; obtain rfl := si_ H; go_enter Tryz.func49, Tryz.ntmps49; go_wp2_with (first | ((with_reducible refine gate_dst (N := 1) rfl ?_); refine bx_ 1 #[.string a0_0, .int .i64 a0_1, .string a0_2] 50 ?_; intro gb1001 hg w21 hbox hb; have BK1001 := am_ (hbox); have GW1001 := am_ (gs_ hg : w.heap.size ≤ gb1001); replace HB := am_ (below_step bl_ hb); have GE1001 := GW1001; clear hb hbox hg; have hz22 := bk3_ BK1001) | ((with_reducible refine gate_callee (f := 72) rfl ?_); refine gl_ 5 Tryz.func72 #[.string a0_0] ?_; (with_reducible refine (impl_isName.calls k a0_0 false _ A2.out).mono ?_); rintro e w' ⟨rfl, ⟨nd, rfl⟩⟩; refine ⟨_, rfl, ?_⟩)); go_ret; exact ⟨rf_, bg_⟩

/-! ### impl_GoodMatchers_1: function 48 -/
def impl_GoodMatchers_1.f (k : Nat) (a0_0 : ByteArray) (a0_1 : Int) (a0_2 : ByteArray) : Option (Bool) := (impl_goodMatcher.f k a0_0 a0_1 a0_2).bind fun t1002 => (some (!t1002))
theorem impl_GoodMatchers_1.mono : ∀ a0 a1 a2 k, LeO (impl_GoodMatchers_1.f k a0 a1 a2) (impl_GoodMatchers_1.f (k + 1) a0 a1 a2) := by
 intro a0 a1 a2 k
 unfold impl_GoodMatchers_1.f
 repeat' with_reducible first | apply impl_goodMatcher.mono | apply LeO.refl | apply LeO.none | apply LeO.ite | refine LeO.bind ?_ (fun _ => ?_)
set_option maxHeartbeats 8000000 in
set_option maxRecDepth 100000 in
theorem impl_GoodMatchers_1.calls (k : Nat) (a0_0 : ByteArray) (a0_1 : Int) (a0_2 : ByteArray) (r : Bool) (w : World) (h : impl_GoodMatchers_1.f k a0_0 a0_1 a0_2 = some r) :
  Calls Tryz.prog 48 #[.agg #[.string a0_0, .int .i64 a0_1, .string a0_2]] w fun e w' => e = .returned (.bool r) ∧ Below w.heap.size w w' := by
 have hu50 := Tryz.underlying50; have HB := am_ (Below.refl w.heap.size w); have H := h; clear h; unfold impl_GoodMatchers_1.f at H; obtain ⟨t1002, A2, H⟩ := bs_ H; obtain rfl := si_ H; go_enter Tryz.func48, Tryz.ntmps48; go_wp2_with (first | ((with_reducible refine gate_dst (N := 1) rfl ?_); refine bx_ 1 #[.string a0_0, .int .i64 a0_1, .string a0_2] 50 ?_; intro gb1001 hg w3 hbox hb; have BK1001 := am_ (hbox); have GW1001 := am_ (gs_ hg : w.heap.size ≤ gb1001); replace HB := am_ (below_step bl_ hb); have GE1001 := GW1001; clear hb hbox hg; have hz4 := bk3_ BK1001) | ((with_reducible refine gate_callee (f := 49) rfl ?_); refine gl_ 4 Tryz.func49 #[.agg #[.string a0_0, .int .i64 a0_1, .string a0_2]] ?_; (with_reducible refine (impl_goodMatcher.calls k a0_0 a0_1 a0_2 t1002 _ A2.out).mono ?_); rintro e w5 ⟨rfl, hb⟩; refine ⟨_, rfl, ?_⟩; replace BK1001 := vb_ BK1001 hb; replace HB := am_ (below_step bg_ hb); (try clear hb))); go_ret; exact ⟨rf_, bg_⟩

/-! ### any_47_48: function 47 -/
def any_47_48.f (k : Nat) (l0 : List (S50)) : Option Bool := impl_Matcher_47.f k (fun x => impl_GoodMatchers_1.f k x.f0 x.f1 x.f2) l0
theorem any_47_48.mono : ∀ a0 k, LeO (any_47_48.f k a0) (any_47_48.f (k + 1) a0) := fun a0 k => impl_Matcher_47.mono _ _ (fun x => impl_GoodMatchers_1.mono _ _ _ _) a0 k
theorem any_47_48.calls (k : Nat) (A0 : Option Addr) (c0 : Nat) (l0 : List (S50)) (r : Bool) (w : World) (hr0 : Kd.C k50 w A0 l0.length l0) (hc0 : l0.length ≤ c0) (h : any_47_48.f k l0 = some r) :
  Calls Tryz.prog 47 #[.slice A0 l0.length c0, .func (.func 48) #[] #[]] w fun e w' => e = .returned (.bool r) ∧ Below w.heap.size w w' :=
 impl_Matcher_47.calls k _ 48 (.func (.func 48) #[] #[]) #[] rfl (enters_ Tryz.func48 (by kernel_rfl) rfl) A0 c0 l0 r w hr0 hc0 (by
  intro W x b hW hP; exact impl_GoodMatchers_1.calls k x.f0 x.f1 x.f2 b W hP) h
/-! ### impl_GoodMatchers: function 25 -/
def impl_GoodMatchers.f (k : Nat) (l0 : List (S50)) : Option (Bool) := if (l0.length : Int) ≤ 10 then ((any_47_48.f k l0).bind fun t1001 => (some (!t1001))) else (some false)
theorem impl_GoodMatchers.mono : ∀ a0 k, LeO (impl_GoodMatchers.f k a0) (impl_GoodMatchers.f (k + 1) a0) := by
 intro a0 k
 unfold impl_GoodMatchers.f
 repeat' with_reducible first | apply any_47_48.mono | apply LeO.refl | apply LeO.none | apply LeO.ite | refine LeO.bind ?_ (fun _ => ?_)
set_option maxHeartbeats 8000000 in
set_option maxRecDepth 100000 in
theorem impl_GoodMatchers.calls (k : Nat) (A0 : Option Addr) (c0 : Nat) (l0 : List (S50)) (r : Bool) (w : World) (hr0 : Kd.C k50 w A0 l0.length l0) (hc0 : l0.length ≤ c0) (h : impl_GoodMatchers.f k l0 = some r) :
  Calls Tryz.prog 25 #[.slice A0 l0.length c0] w fun e w' => e = .returned (.bool r) ∧ Below w.heap.size w w' := by
 have HR0 := am_ hr0; have HC0 := am_ hc0; clear hr0 hc0; have HB := am_ (Below.refl w.heap.size w); have H := h; clear h; unfold impl_GoodMatchers.f at H
 by_cases c2 : (l0.length : Int) ≤ 10
 ·rw [if_pos c2] at H; have c2b0 := decide_eq_true c2; have c2b1 : decide (l0.length ≤ 10) = true := decide_eq_true (by omega); clear c2; obtain ⟨t1001, A3, H⟩ := bs_ H; obtain rfl := si_ H; go_enter Tryz.func25, Tryz.ntmps25; go_wp2_with (first | (go_at_call 47; (with_reducible refine (any_47_48.calls k _ _ l0 t1001 _ ?side1 ?side2 A3.out).mono ?_); (case side1 => repeat (first | exact HR0.out | (with_reducible refine Kd.C_alloc ?_ _) | (with_reducible refine Kd.C_drewN ?_ _) | (with_reducible refine Kd.C_drew ?_))); (case side2 => exact HC0.out); rintro e w4 ⟨rfl, hb⟩; replace HB := am_ (below_step bl_ hb); (try clear hb))); go_ret; exact ⟨rf_, bl_⟩
 ·rw [if_neg c2] at H; have c2b0 := decide_eq_false c2; have c2b1 : decide (l0.length ≤ 10) = false := decide_eq_false (by omega); clear c2; obtain rfl := si_ H; go_enter Tryz.func25, Tryz.ntmps25; go_wp2; go_ret; exact ⟨rf_, bl_⟩

end Go.Proofs.YthkhflhmnjgbnaaGreat.Pr
