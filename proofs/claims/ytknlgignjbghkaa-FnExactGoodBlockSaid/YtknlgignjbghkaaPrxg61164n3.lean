/- Functions of the given program as plain Lean functions, and that the machine's calls come to them; written by a program of this session; no condition but those that each theorem states. -/
import Derived.Test.YtknlgignjbghkaaPrx0
import Derived.Test.YtknlgignjbghkaaPrxg5da37n1
import Derived.Test.YtknlgignjbghkaaPrxg61164n2
import Derived.Test.YtknlgignjbghkaaPrxg5da37n2
namespace Go.Proofs.Ytknlgignjbghkaa.Pr
open Go.RowKit Go.Proofs.YtknlgignjbghkaaW.PrintWords Go.Proofs.YtknlgignjbghkaaW.PrintLast Go.Proofs.YtknlgignjbghkaaW.PrintMore
attribute [local go_sem] max2_int min2_int max_two min_two max_three min_three max_four min_four   -- for this text's walks alone
set_option linter.unusedVariables false
set_option linter.unusedSimpArgs false

/-! ### impl_GoodSeries: function 53 -/
def impl_GoodSeries.l0 : Nat → List (S83) → List (S83) → Int → Int → Option (Bool)
 | 0, _, _, _, _ => none
 | k + 1, x0, x8, x9, x10 => if x10 < x9 then (if 0 ≤ x10 then (if x10 < (x8.length : Int) then ((impl_GoodLabels.f k ((rd_T83 x8 x10).f0)).bind fun t1003 => (if t1003 = true then ((impl_valueOf.f k ((rd_T83 x8 x10).f0) (⟨#[95, 110, 97, 109, 101]⟩ : ByteArray)).bind fun t1004 => (if t1004.toList = ([] : List UInt8) then (some false) else (if (((rd_T83 x8 x10).f1).length : Int) = 0 then (some false) else ((impl_GoodSamples.f k ((rd_T83 x8 x10).f1)).bind fun t1005 => (if t1005 = true then (if x10 > 0 then (if 0 ≤ (wrap64 (x10 - 1)) then (if (wrap64 (x10 - 1)) < (x0.length : Int) then ((impl_compare.f k ((rd_T83 x0 (wrap64 (x10 - 1))).f0) ((rd_T83 x8 x10).f0)).bind fun t1007 => (if t1007 ≥ 0 then (some false) else (impl_GoodSeries.l0 k x0 x8 x9 (wrap64 (x10 + 1))))) else (none)) else (none)) else (impl_GoodSeries.l0 k x0 x8 x9 (wrap64 (x10 + 1)))) else (some false)))))) else (some false))) else (none)) else (none)) else (some true)
def impl_GoodSeries.f (k : Nat) (l0 : List (S83)) : Option (Bool) := if (l0.length : Int) > 200 then (some false) else (impl_GoodSeries.l0 k l0 l0 (l0.length : Int) 0)
theorem impl_GoodSeries.mono_l : ∀ k, (∀ y0 y1 y2 y3, LeO (impl_GoodSeries.l0 k y0 y1 y2 y3) (impl_GoodSeries.l0 (k + 1) y0 y1 y2 y3))
 | 0 => fun _ _ _ _ r h => by simp [impl_GoodSeries.l0] at h
 | k + 1 => by
  have ih0 := impl_GoodSeries.mono_l k
  ·intro y0 y1 y2 y3
   unfold impl_GoodSeries.l0
   repeat' first
   | with_reducible first | exact ih0 _ _ _ _ | exact impl_GoodLabels.mono _ _ | exact impl_GoodSamples.mono _ _ | exact impl_compare.mono _ _ _ | exact impl_valueOf.mono _ _ _ | exact LeO.refl _ | exact LeO.none _ | refine LeO.ite ?_ ?_ | refine LeO.bind ?_ (fun _ => ?_)
   | exact ih0 _ _ _ _
   | exact impl_GoodLabels.mono _ _
   | exact impl_GoodSamples.mono _ _
   | exact impl_compare.mono _ _ _
   | exact impl_valueOf.mono _ _ _
   | exact LeO.none _
   | refine LeO.ite ?_ ?_
   | refine LeO.bind ?_ (fun _ => ?_)
theorem impl_GoodSeries.mono : ∀ a0 k, LeO (impl_GoodSeries.f k a0) (impl_GoodSeries.f (k + 1) a0) := by
 intro a0 k
 have ih0 := impl_GoodSeries.mono_l k
 unfold impl_GoodSeries.f
 repeat' first
   | with_reducible first | exact ih0 _ _ _ _ | exact impl_GoodLabels.mono _ _ | exact impl_GoodSamples.mono _ _ | exact impl_compare.mono _ _ _ | exact impl_valueOf.mono _ _ _ | exact LeO.refl _ | exact LeO.none _ | refine LeO.ite ?_ ?_ | refine LeO.bind ?_ (fun _ => ?_)
   | exact ih0 _ _ _ _
   | exact impl_GoodLabels.mono _ _
   | exact impl_GoodSamples.mono _ _
   | exact impl_compare.mono _ _ _
   | exact impl_valueOf.mono _ _ _
   | exact LeO.none _
   | refine LeO.ite ?_ ?_
   | refine LeO.bind ?_ (fun _ => ?_)
def impl_GoodSeries.T6 : Bool × List (List Nat × List Nat) := (true, [([], []), ([0], [0]), ([1], [1]), ([2], [2]), ([3, 2], [3]), ([4], [4]), ([5, 4], [4, 5]), ([6, 4, 4], [4, 6]), ([7, 4], [4, 7]), ([4, 8], [4, 8]), ([9, 7], [9]), ([10], [10]), ([11, 10], [10, 11]), ([12, 10], [10, 12]), ([13, 10], [10, 13]), ([10, 14], [10, 14]), ([15, 10], [15]), ([16], [16]), ([17, 16], [16, 17]), ([18, 16, 16], [16, 18]), ([19, 16], [16, 19]), ([16, 20], [16, 20]), ([21, 19], [21]), ([22], [22]), ([23, 22], [22, 23]), ([24, 22, 22], [22, 24]), ([25], [25]), ([25], [25]), ([27, 25], [25, 27]), ([26, 28, 25], [25, 26, 28]), ([29, 25], [25, 29]), ([30, 25], [25, 30]), ([25], [25]), ([32, 25], [25, 32]), ([31, 33, 25, 25], [25, 31, 33]), ([34, 25], [25, 34]), ([25, 35, 22], [22, 25, 35]), ([22, 36], [22, 36])])
def impl_GoodSeries.B6 : List Nat := [0, 1, 3, 7, 15, 31, 63, 127, 255, 511, 1023, 2047, 4095, 8191, 16383, 32767, 65535, 131071, 262143, 524287, 1048575, 2097151, 4194303, 8388607, 16777215, 33554431, 67108863, 67108863, 201326591, 536870911, 1073741823, 2147483647, 67108863, 4362076159, 17179869183, 34359738367, 68719476735, 137438953471]
theorem impl_GoodSeries.tab6 : rtab .any (opsOf Try.f53 6) = impl_GoodSeries.T6 := by kernel_rfl
theorem impl_GoodSeries.bits6 : waitsOk impl_GoodSeries.T6.2 impl_GoodSeries.B6 = true := by kernel_rfl
set_option maxHeartbeats 8000000 in
set_option maxRecDepth 100000 in
theorem impl_GoodSeries.calls (k : Nat) (A0 : Option Addr) (c0 : Nat) (l0 : List (S83)) (r : Bool) (w : World) (hr0 : Kd.C k83 w A0 l0.length l0) (hc0 : l0.length ≤ c0) (h : impl_GoodSeries.f k l0 = some r) :
  Calls Try.prog 53 #[.slice A0 l0.length c0] w fun e w' => e = .returned (.bool r) ∧ Below w.heap.size w w' := by
 have hu83 := Try.underlying83
 have HR0 := am_ hr0
 have HC0 := am_ hc0
 clear hr0 hc0
 have HB := am_ (Below.refl w.heap.size w)
 have H : (if (l0.length : Int) > 200 then (some false) else (impl_GoodSeries.l0 k l0 l0 (l0.length : Int) 0)) = some r := h
 clear h
 by_cases c2 : (l0.length : Int) > 200
 ·rw [if_pos c2] at H
  have c2b0 : decide (200 < (l0.length : Int)) = true := decide_eq_true c2
  have c2b1 : decide (200 < l0.length) = true := decide_eq_true (by omega)
  clear c2
  obtain rfl := Option.some.inj H
  go_enter Try.func53, Try.ntmps53
  go_wp2
  go_ret
  exact ⟨rf_, bl_⟩
 ·rw [if_neg c2] at H
  have c2b0 : decide (200 < (l0.length : Int)) = false := decide_eq_false c2
  have c2b1 : decide (200 < l0.length) = false := decide_eq_false (by omega)
  clear c2
  have H' := am_ H
  clear H
  go_enter Try.func53, Try.ntmps53
  go_wp2
  go_loopg [10] k (fun kq v10 w' => ∃ (x10_1 : Int), v10 = .int .i64 x10_1 ∧ Aside0 (impl_GoodSeries.l0 kq l0 l0 (l0.length : Int) x10_1 = some r) ∧ Aside0 (kq ≤ k) ∧ Aside0 (Below w.heap.size w w'))
  case atStart => exact ⟨(0), rs_, H', ⟨Nat.le_refl _⟩, ⟨bl_⟩⟩
  case round =>
   clear H'
   try clear c2
   try clear c2b0
   try clear c2b1
   try clear p2
   obtain ⟨x10_1, rfl, HA, HK1, HB⟩ := hrel
   cases gk with
   | zero => exact absurd HA.out (by simp [impl_GoodSeries.l0])
   | succ k1 =>
    have H := HA.out
    clear HA
    simp only [impl_GoodSeries.l0] at H
    by_cases c3 : x10_1 < (l0.length : Int)
    ·rw [if_pos c3] at H
     have c3b0 : decide (x10_1 < (l0.length : Int)) = true := decide_eq_true c3
     clear c3
     by_cases c4 : 0 ≤ x10_1
     ·rw [if_pos c4] at H
      have c4b0 : decide (0 ≤ x10_1) = true := decide_eq_true c4
      clear c4
      by_cases c5 : x10_1 < (l0.length : Int)
      ·rw [if_pos c5] at H
       have c5b0 : decide (x10_1 < (l0.length : Int)) = true := decide_eq_true c5
       clear c5
       replace H := Option.bind_eq_some_iff.mp H
       obtain ⟨t1003, A60, H⟩ := H
       replace H : (if t1003 = true then ((impl_valueOf.f k1 ((rd_T83 l0 x10_1).f0) (⟨#[95, 110, 97, 109, 101]⟩ : ByteArray)).bind fun t1004 => (if t1004.toList = ([] : List UInt8) then (some false) else (if (((rd_T83 l0 x10_1).f1).length : Int) = 0 then (some false) else ((impl_GoodSamples.f k1 ((rd_T83 l0 x10_1).f1)).bind fun t1005 => (if t1005 = true then (if x10_1 > 0 then (if 0 ≤ (wrap64 (x10_1 - 1)) then (if (wrap64 (x10_1 - 1)) < (l0.length : Int) then ((impl_compare.f k1 ((rd_T83 l0 (wrap64 (x10_1 - 1))).f0) ((rd_T83 l0 x10_1).f0)).bind fun t1007 => (if t1007 ≥ 0 then (some false) else (impl_GoodSeries.l0 k1 l0 l0 (l0.length : Int) (wrap64 (x10_1 + 1))))) else (none)) else (none)) else (impl_GoodSeries.l0 k1 l0 l0 (l0.length : Int) (wrap64 (x10_1 + 1)))) else (some false)))))) else (some false)) = some r := H
       have A6 := am_ A60
       clear A60
       by_cases c7 : t1003 = true
       ·subst c7
        have H1 : ((impl_valueOf.f k1 ((rd_T83 l0 x10_1).f0) (⟨#[95, 110, 97, 109, 101]⟩ : ByteArray)).bind fun t1004 => (if t1004.toList = ([] : List UInt8) then (some false) else (if (((rd_T83 l0 x10_1).f1).length : Int) = 0 then (some false) else ((impl_GoodSamples.f k1 ((rd_T83 l0 x10_1).f1)).bind fun t1005 => (if t1005 = true then (if x10_1 > 0 then (if 0 ≤ (wrap64 (x10_1 - 1)) then (if (wrap64 (x10_1 - 1)) < (l0.length : Int) then ((impl_compare.f k1 ((rd_T83 l0 (wrap64 (x10_1 - 1))).f0) ((rd_T83 l0 x10_1).f0)).bind fun t1007 => (if t1007 ≥ 0 then (some false) else (impl_GoodSeries.l0 k1 l0 l0 (l0.length : Int) (wrap64 (x10_1 + 1))))) else (none)) else (none)) else (impl_GoodSeries.l0 k1 l0 l0 (l0.length : Int) (wrap64 (x10_1 + 1)))) else (some false)))))) = some r := by rw [if_pos rfl] at H; exact H
        clear H
        have H := H1
        clear H1
        replace H := Option.bind_eq_some_iff.mp H
        obtain ⟨t1004, A80, H⟩ := H
        replace H : (if t1004.toList = ([] : List UInt8) then (some false) else (if (((rd_T83 l0 x10_1).f1).length : Int) = 0 then (some false) else ((impl_GoodSamples.f k1 ((rd_T83 l0 x10_1).f1)).bind fun t1005 => (if t1005 = true then (if x10_1 > 0 then (if 0 ≤ (wrap64 (x10_1 - 1)) then (if (wrap64 (x10_1 - 1)) < (l0.length : Int) then ((impl_compare.f k1 ((rd_T83 l0 (wrap64 (x10_1 - 1))).f0) ((rd_T83 l0 x10_1).f0)).bind fun t1007 => (if t1007 ≥ 0 then (some false) else (impl_GoodSeries.l0 k1 l0 l0 (l0.length : Int) (wrap64 (x10_1 + 1))))) else (none)) else (none)) else (impl_GoodSeries.l0 k1 l0 l0 (l0.length : Int) (wrap64 (x10_1 + 1)))) else (some false))))) = some r := H
        have A8 := am_ A80
        clear A80
        by_cases c9 : t1004.toList = ([] : List UInt8)
        ·rw [if_pos c9] at H
         have c9b0 : (t1004.toList == ([] : List UInt8)) = true := beq_iff_eq.mpr c9
         have c9b1 : (t1004.toList != ([] : List UInt8)) = false := bne_eq_false_iff_eq.mpr c9
         clear c9
         obtain rfl := Option.some.inj H
         have p1001 : 0 ≤ (x10_1 : Int) := od_
         have q1001 : x10_1 < (l0.length : Int) := od_
         obtain ⟨ad1001, A1001_0, c1001_0, A1001_1, c1001_1, e1001, hx1001_0, hx1001_1, hl1001_0, hi1001_0, hl1001_1, hi1001_1⟩ := at_T83 HR0.out x10_1 p1001 q1001
         cases e1001
         replace hx1001_0 := kp_ HB hx1001_0
         replace hx1001_1 := kp_ HB hx1001_1
         have HR1001_0 := am_ hi1001_0
         have HC1001_0 := am_ hl1001_0
         clear hi1001_0 hl1001_0
         have HR1001_1 := am_ hi1001_1
         have HC1001_1 := am_ hl1001_1
         clear hi1001_1 hl1001_1
         replace p1001 := eq_true p1001
         replace q1001 := eq_true q1001
         try go_wp2_with (first | ((with_reducible refine gate_dst (N := 4) rfl ?_); (try (refine gate_guard (by rfl) ?_; dsimp only)); refine bx_ 4 #[.slice none 0 0, .slice none 0 0] 83 ?_; intro gb1002 hg w10 hbox hb; have BK1002 := am_ (hbox); have GW1002 := am_ (gs_ hg : w.heap.size ≤ gb1002); replace HB := am_ (below_step bl_ hb); have GE1002 := GW1002; clear hb hbox hg; have hcz11_0 := bc2_0 BK1002; have hcz11_1 := bc2_1 BK1002; have hfz11_0 := bf_ BK1002 0; have hfz11_1 := bf_ BK1002 1))
         have n0_ : Aside0 (((w10.setCell ⟨gb1002, 0, none⟩ (.slice A1001_0 ((rd_T83 l0 x10_1).f0).length c1001_0)).setCell ⟨gb1002, 1, none⟩ (.slice A1001_1 ((rd_T83 l0 x10_1).f1).length c1001_1)).heap[gb1002]? = some (.cells #[.slice A1001_0 ((rd_T83 l0 x10_1).f0).length c1001_0, .slice A1001_1 ((rd_T83 l0 x10_1).f1).length c1001_1] 83 (0, 0))) := ⟨by (with_reducible repeat (first | refine blk_drewN ?_ _ | refine blk_drew ?_ | refine blk_alloc ?_ _)); refine blk_put (cs := #[.slice A1001_0 ((rd_T83 l0 x10_1).f0).length c1001_0, .slice none 0 0]) ?_ 1 _ rfl; (with_reducible repeat (first | refine blk_drewN ?_ _ | refine blk_drew ?_ | refine blk_alloc ?_ _)); refine blk_put (cs := #[.slice none 0 0, .slice none 0 0]) ?_ 0 _ rfl; (with_reducible repeat (first | refine blk_drewN ?_ _ | refine blk_drew ?_ | refine blk_alloc ?_ _)); exact BK1002.out⟩
         have n1_ : Aside0 (Below w.heap.size w ((w10.setCell ⟨gb1002, 0, none⟩ (.slice A1001_0 ((rd_T83 l0 x10_1).f0).length c1001_0)).setCell ⟨gb1002, 1, none⟩ (.slice A1001_1 ((rd_T83 l0 x10_1).f1).length c1001_1))) := ⟨bg_⟩
         (try clear BK1002)
         (try clear HB)
         generalize ((w10.setCell ⟨gb1002, 0, none⟩ (.slice A1001_0 ((rd_T83 l0 x10_1).f0).length c1001_0)).setCell ⟨gb1002, 1, none⟩ (.slice A1001_1 ((rd_T83 l0 x10_1).f1).length c1001_1)) = w12 at n0_ n1_ ⊢
         have BK1002 := n0_
         have HB := n1_
         clear n0_ n1_
         have n0_ := am_ (blk_drew BK1002.out)
         have n1_ := am_ (below_drew1 HB.out)
         clear BK1002
         clear HB
         have BK1002 := n0_
         have HB := n1_
         clear n0_ n1_
         refine start_ (n := 38) (S := fun w' => w'.cell? ⟨gb1002, 0, none⟩ = some (.slice A1001_0 ((rd_T83 l0 x10_1).f0).length c1001_0) ∧ w'.cell? ⟨gb1002, 1, none⟩ = some (.slice A1001_1 ((rd_T83 l0 x10_1).f1).length c1001_1)) (ds := []) (bz 38 0) (by kernel_rfl) rfl rfl ⟨(blk_cell BK1002.out 0).trans rfl, (blk_cell BK1002.out 1).trans rfl⟩ (fun hHeld => ?_); refine with_tabW impl_GoodSeries.tab6 impl_GoodSeries.bits6 (fun HT_ HW_ => ?_)
         generalize w12.drew = w13 at BK1002 HB hHeld ⊢
         refine pz_ 0 15 1 ?_
         refine tz_ 1 16 3 ?_
         refine one_ (i := 2) (N := some 17) (bz 38 7) rfl rfl (one_of HT_.out (by kernel_rfl)) (by decide) (fun K hK => ?_)
         refine goes_ Try.func54 (by kernel_rfl) rfl #[.slice A1001_0 ((rd_T83 l0 x10_1).f0).length c1001_0] (by rfl) rfl rfl ag_ ?_
         with_reducible refine (impl_GoodLabels.calls k1 _ _ ((rd_T83 l0 x10_1).f0) true _ ?side1 ?side2 A6.out).mono ?_
         (case side1 => exact cc_ (Kd.C_below HR1001_0.out HB.out))
         (case side2 => exact HC1001_0.out)
         rintro e w14 ⟨rfl, hb⟩
         refine ⟨_, rfl, ?_⟩
         have n0_ := am_ (blk_below (g := gb1002) (vk_ BK1002) hb)
         have n1_ := am_ (below_step bg_ hb)
         clear BK1002
         clear HB
         have BK1002 := n0_
         have HB := n1_
         clear n0_ n1_
         (try clear hb)
         (try clear hb2)
         (try clear hk)
         (try clear hi)
         refine hK.out _ _ ⟨(blk_cell BK1002.out 0).trans rfl, (blk_cell BK1002.out 1).trans rfl⟩ (fun hHeld => ?_)
         clear hK K
         refine norm_ (a' := ?_) ?_ ?_
         rotate_left
         ·show Act.put _ (some 17) _ = _
          simp only [Act.put, List.setIfInBounds_toArray, List.set_cons_zero, List.set_cons_succ, i64_w, i32_w]
          rfl
         refine pz_ 3 18 15 ?_
         refine pz_ 4 19 31 ?_
         refine pz_ 5 20 63 ?_
         refine tz_ 6 21 127 ?_
         refine one_ (i := 7) (N := some 22) (bz 38 255) rfl rfl (one_of HT_.out (by kernel_rfl)) (by decide) (fun K hK => ?_)
         refine goes_ Try.func79 (by kernel_rfl) rfl #[.slice A1001_0 ((rd_T83 l0 x10_1).f0).length c1001_0, .string (⟨#[95, 110, 97, 109, 101]⟩ : ByteArray)] (by rfl) rfl rfl ag_ ?_
         with_reducible refine (impl_valueOf.calls k1 _ _ ((rd_T83 l0 x10_1).f0) (⟨#[95, 110, 97, 109, 101]⟩ : ByteArray) t1004 _ ?side1 ?side2 A8.out).mono ?_
         (case side1 => exact cc_ (Kd.C_below HR1001_0.out HB.out))
         (case side2 => exact HC1001_0.out)
         rintro e w15 ⟨rfl, hb⟩
         refine ⟨_, rfl, ?_⟩
         have n0_ := am_ (blk_below (g := gb1002) (vk_ BK1002) hb)
         have n1_ := am_ (below_step bg_ hb)
         clear BK1002
         clear HB
         have BK1002 := n0_
         have HB := n1_
         clear n0_ n1_
         (try clear hb)
         (try clear hb2)
         (try clear hk)
         (try clear hi)
         refine hK.out _ _ ⟨(blk_cell BK1002.out 0).trans rfl, (blk_cell BK1002.out 1).trans rfl⟩ (fun hHeld => ?_)
         clear hK K
         refine norm_ (a' := ?_) ?_ ?_
         rotate_left
         ·show Act.put _ (some 22) _ = _
          simp only [Act.put, List.setIfInBounds_toArray, List.set_cons_zero, List.set_cons_succ, i64_w, i32_w]
          rfl
         refine pz_ 8 23 511 ?_
         refine pz_ 9 24 1023 ?_
         refine pz_ 10 25 2047 ?_
         refine uz_ 11 26 4095 ?_
         refine uz_ 12 27 8191 ?_
         refine uz_ 13 28 16383 ?_
         refine uz_ 14 29 32767 ?_
         refine pz_ 15 30 65535 ?_
         refine pz_ 16 31 131071 ?_
         refine uz_ 17 32 262143 ?_
         refine uz_ 18 33 524287 ?_
         refine uz_ 19 34 1048575 ?_
         refine uz_ 20 35 2097151 ?_
         refine pz_ 21 36 4194303 ?_
         refine pz_ 22 37 8388607 ?_
         refine uz_ 23 38 16777215 ?_
         refine uz_ 24 39 33554431 ?_
         refine uz_ 25 40 67108863 ?_
         refine uz_ 26 41 134217727 ?_
         refine uz_ 27 42 268435455 ?_
         refine uz_ 28 43 536870911 ?_
         refine uz_ 29 44 1073741823 ?_
         refine uz_ 30 45 2147483647 ?_
         refine uz_ 31 46 4294967295 ?_
         refine uz_ 32 47 8589934591 ?_
         refine uz_ 33 48 17179869183 ?_
         refine uz_ 34 49 34359738367 ?_
         refine uz_ 35 50 68719476735 ?_
         refine uz_ 36 51 137438953471 ?_
         refine pz_ 37 52 274877906943 ?_
         refine done_ (done_of HT_.out (by kernel_rfl)) ?_
         try go_wp2
         go_ret
         exact ⟨rf_, bg_⟩
        ·rw [if_neg c9] at H
         have c9b0 : (t1004.toList == ([] : List UInt8)) = false := beq_eq_false_iff_ne.mpr c9
         have c9b1 : (t1004.toList != ([] : List UInt8)) = true := bne_iff_ne.mpr c9
         by_cases c16 : (((rd_T83 l0 x10_1).f1).length : Int) = 0
         ·rw [if_pos c16] at H
          have c16b0 : ((((rd_T83 l0 x10_1).f1).length : Int) == 0) = true := beq_iff_eq.mpr c16
          have c16b1 : ((((rd_T83 l0 x10_1).f1).length : Int) != 0) = false := bne_eq_false_iff_eq.mpr c16
          clear c16
          obtain rfl := Option.some.inj H
          have p1001 : 0 ≤ (x10_1 : Int) := od_
          have q1001 : x10_1 < (l0.length : Int) := od_
          obtain ⟨ad1001, A1001_0, c1001_0, A1001_1, c1001_1, e1001, hx1001_0, hx1001_1, hl1001_0, hi1001_0, hl1001_1, hi1001_1⟩ := at_T83 HR0.out x10_1 p1001 q1001
          cases e1001
          replace hx1001_0 := kp_ HB hx1001_0
          replace hx1001_1 := kp_ HB hx1001_1
          have HR1001_0 := am_ hi1001_0
          have HC1001_0 := am_ hl1001_0
          clear hi1001_0 hl1001_0
          have HR1001_1 := am_ hi1001_1
          have HC1001_1 := am_ hl1001_1
          clear hi1001_1 hl1001_1
          replace p1001 := eq_true p1001
          replace q1001 := eq_true q1001
          try go_wp2_with (first | ((with_reducible refine gate_dst (N := 4) rfl ?_); (try (refine gate_guard (by rfl) ?_; dsimp only)); refine bx_ 4 #[.slice none 0 0, .slice none 0 0] 83 ?_; intro gb1002 hg w17 hbox hb; have BK1002 := am_ (hbox); have GW1002 := am_ (gs_ hg : w.heap.size ≤ gb1002); replace HB := am_ (below_step bl_ hb); have GE1002 := GW1002; clear hb hbox hg; have hcz18_0 := bc2_0 BK1002; have hcz18_1 := bc2_1 BK1002; have hfz18_0 := bf_ BK1002 0; have hfz18_1 := bf_ BK1002 1))
          have n0_ : Aside0 (((w17.setCell ⟨gb1002, 0, none⟩ (.slice A1001_0 ((rd_T83 l0 x10_1).f0).length c1001_0)).setCell ⟨gb1002, 1, none⟩ (.slice A1001_1 ((rd_T83 l0 x10_1).f1).length c1001_1)).heap[gb1002]? = some (.cells #[.slice A1001_0 ((rd_T83 l0 x10_1).f0).length c1001_0, .slice A1001_1 ((rd_T83 l0 x10_1).f1).length c1001_1] 83 (0, 0))) := ⟨by (with_reducible repeat (first | refine blk_drewN ?_ _ | refine blk_drew ?_ | refine blk_alloc ?_ _)); refine blk_put (cs := #[.slice A1001_0 ((rd_T83 l0 x10_1).f0).length c1001_0, .slice none 0 0]) ?_ 1 _ rfl; (with_reducible repeat (first | refine blk_drewN ?_ _ | refine blk_drew ?_ | refine blk_alloc ?_ _)); refine blk_put (cs := #[.slice none 0 0, .slice none 0 0]) ?_ 0 _ rfl; (with_reducible repeat (first | refine blk_drewN ?_ _ | refine blk_drew ?_ | refine blk_alloc ?_ _)); exact BK1002.out⟩
          have n1_ : Aside0 (Below w.heap.size w ((w17.setCell ⟨gb1002, 0, none⟩ (.slice A1001_0 ((rd_T83 l0 x10_1).f0).length c1001_0)).setCell ⟨gb1002, 1, none⟩ (.slice A1001_1 ((rd_T83 l0 x10_1).f1).length c1001_1))) := ⟨bg_⟩
          (try clear BK1002)
          (try clear HB)
          generalize ((w17.setCell ⟨gb1002, 0, none⟩ (.slice A1001_0 ((rd_T83 l0 x10_1).f0).length c1001_0)).setCell ⟨gb1002, 1, none⟩ (.slice A1001_1 ((rd_T83 l0 x10_1).f1).length c1001_1)) = w19 at n0_ n1_ ⊢
          have BK1002 := n0_
          have HB := n1_
          clear n0_ n1_
          have n0_ := am_ (blk_drew BK1002.out)
          have n1_ := am_ (below_drew1 HB.out)
          clear BK1002
          clear HB
          have BK1002 := n0_
          have HB := n1_
          clear n0_ n1_
          refine start_ (n := 38) (S := fun w' => w'.cell? ⟨gb1002, 0, none⟩ = some (.slice A1001_0 ((rd_T83 l0 x10_1).f0).length c1001_0) ∧ w'.cell? ⟨gb1002, 1, none⟩ = some (.slice A1001_1 ((rd_T83 l0 x10_1).f1).length c1001_1)) (ds := []) (bz 38 0) (by kernel_rfl) rfl rfl ⟨(blk_cell BK1002.out 0).trans rfl, (blk_cell BK1002.out 1).trans rfl⟩ (fun hHeld => ?_); refine with_tabW impl_GoodSeries.tab6 impl_GoodSeries.bits6 (fun HT_ HW_ => ?_)
          generalize w19.drew = w20 at BK1002 HB hHeld ⊢
          refine pz_ 0 15 1 ?_
          refine tz_ 1 16 3 ?_
          refine one_ (i := 2) (N := some 17) (bz 38 7) rfl rfl (one_of HT_.out (by kernel_rfl)) (by decide) (fun K hK => ?_)
          refine goes_ Try.func54 (by kernel_rfl) rfl #[.slice A1001_0 ((rd_T83 l0 x10_1).f0).length c1001_0] (by rfl) rfl rfl ag_ ?_
          with_reducible refine (impl_GoodLabels.calls k1 _ _ ((rd_T83 l0 x10_1).f0) true _ ?side1 ?side2 A6.out).mono ?_
          (case side1 => exact cc_ (Kd.C_below HR1001_0.out HB.out))
          (case side2 => exact HC1001_0.out)
          rintro e w21 ⟨rfl, hb⟩
          refine ⟨_, rfl, ?_⟩
          have n0_ := am_ (blk_below (g := gb1002) (vk_ BK1002) hb)
          have n1_ := am_ (below_step bg_ hb)
          clear BK1002
          clear HB
          have BK1002 := n0_
          have HB := n1_
          clear n0_ n1_
          (try clear hb)
          (try clear hb2)
          (try clear hk)
          (try clear hi)
          refine hK.out _ _ ⟨(blk_cell BK1002.out 0).trans rfl, (blk_cell BK1002.out 1).trans rfl⟩ (fun hHeld => ?_)
          clear hK K
          refine norm_ (a' := ?_) ?_ ?_
          rotate_left
          ·show Act.put _ (some 17) _ = _
           simp only [Act.put, List.setIfInBounds_toArray, List.set_cons_zero, List.set_cons_succ, i64_w, i32_w]
           rfl
          refine pz_ 3 18 15 ?_
          refine pz_ 4 19 31 ?_
          refine pz_ 5 20 63 ?_
          refine tz_ 6 21 127 ?_
          refine one_ (i := 7) (N := some 22) (bz 38 255) rfl rfl (one_of HT_.out (by kernel_rfl)) (by decide) (fun K hK => ?_)
          refine goes_ Try.func79 (by kernel_rfl) rfl #[.slice A1001_0 ((rd_T83 l0 x10_1).f0).length c1001_0, .string (⟨#[95, 110, 97, 109, 101]⟩ : ByteArray)] (by rfl) rfl rfl ag_ ?_
          with_reducible refine (impl_valueOf.calls k1 _ _ ((rd_T83 l0 x10_1).f0) (⟨#[95, 110, 97, 109, 101]⟩ : ByteArray) t1004 _ ?side1 ?side2 A8.out).mono ?_
          (case side1 => exact cc_ (Kd.C_below HR1001_0.out HB.out))
          (case side2 => exact HC1001_0.out)
          rintro e w22 ⟨rfl, hb⟩
          refine ⟨_, rfl, ?_⟩
          have n0_ := am_ (blk_below (g := gb1002) (vk_ BK1002) hb)
          have n1_ := am_ (below_step bg_ hb)
          clear BK1002
          clear HB
          have BK1002 := n0_
          have HB := n1_
          clear n0_ n1_
          (try clear hb)
          (try clear hb2)
          (try clear hk)
          (try clear hi)
          refine hK.out _ _ ⟨(blk_cell BK1002.out 0).trans rfl, (blk_cell BK1002.out 1).trans rfl⟩ (fun hHeld => ?_)
          clear hK K
          refine norm_ (a' := ?_) ?_ ?_
          rotate_left
          ·show Act.put _ (some 22) _ = _
           simp only [Act.put, List.setIfInBounds_toArray, List.set_cons_zero, List.set_cons_succ, i64_w, i32_w]
           rfl
          refine pz_ 8 23 511 ?_
          refine pz_ 9 24 1023 ?_
          refine pz_ 10 25 2047 ?_
          refine pz_ 11 26 4095 ?_
          refine tz_ 12 27 8191 ?_
          refine pz_ 13 28 16383 ?_
          refine pz_ 14 29 32767 ?_
          refine pz_ 15 30 65535 ?_
          refine pz_ 16 31 131071 ?_
          refine uz_ 17 32 262143 ?_
          refine uz_ 18 33 524287 ?_
          refine uz_ 19 34 1048575 ?_
          refine uz_ 20 35 2097151 ?_
          refine pz_ 21 36 4194303 ?_
          refine pz_ 22 37 8388607 ?_
          refine uz_ 23 38 16777215 ?_
          refine uz_ 24 39 33554431 ?_
          refine uz_ 25 40 67108863 ?_
          refine uz_ 26 41 134217727 ?_
          refine uz_ 27 42 268435455 ?_
          refine uz_ 28 43 536870911 ?_
          refine uz_ 29 44 1073741823 ?_
          refine uz_ 30 45 2147483647 ?_
          refine uz_ 31 46 4294967295 ?_
          refine uz_ 32 47 8589934591 ?_
          refine uz_ 33 48 17179869183 ?_
          refine uz_ 34 49 34359738367 ?_
          refine uz_ 35 50 68719476735 ?_
          refine uz_ 36 51 137438953471 ?_
          refine pz_ 37 52 274877906943 ?_
          refine done_ (done_of HT_.out (by kernel_rfl)) ?_
          try go_wp2
          go_ret
          exact ⟨rf_, bg_⟩
         ·rw [if_neg c16] at H
          have c16b0 : ((((rd_T83 l0 x10_1).f1).length : Int) == 0) = false := beq_eq_false_iff_ne.mpr c16
          have c16b1 : ((((rd_T83 l0 x10_1).f1).length : Int) != 0) = true := bne_iff_ne.mpr c16
          have c16b2 : ¬ (((rd_T83 l0 x10_1).f1) = []) := fun h_ => c16 (by rw [h_]; rfl)
          replace H := Option.bind_eq_some_iff.mp H
          obtain ⟨t1005, A230, H⟩ := H
          replace H : (if t1005 = true then (if x10_1 > 0 then (if 0 ≤ (wrap64 (x10_1 - 1)) then (if (wrap64 (x10_1 - 1)) < (l0.length : Int) then ((impl_compare.f k1 ((rd_T83 l0 (wrap64 (x10_1 - 1))).f0) ((rd_T83 l0 x10_1).f0)).bind fun t1007 => (if t1007 ≥ 0 then (some false) else (impl_GoodSeries.l0 k1 l0 l0 (l0.length : Int) (wrap64 (x10_1 + 1))))) else (none)) else (none)) else (impl_GoodSeries.l0 k1 l0 l0 (l0.length : Int) (wrap64 (x10_1 + 1)))) else (some false)) = some r := H
          have A23 := am_ A230
          clear A230
          by_cases c24 : t1005 = true
          ·subst c24
           have H1 : (if x10_1 > 0 then (if 0 ≤ (wrap64 (x10_1 - 1)) then (if (wrap64 (x10_1 - 1)) < (l0.length : Int) then ((impl_compare.f k1 ((rd_T83 l0 (wrap64 (x10_1 - 1))).f0) ((rd_T83 l0 x10_1).f0)).bind fun t1007 => (if t1007 ≥ 0 then (some false) else (impl_GoodSeries.l0 k1 l0 l0 (l0.length : Int) (wrap64 (x10_1 + 1))))) else (none)) else (none)) else (impl_GoodSeries.l0 k1 l0 l0 (l0.length : Int) (wrap64 (x10_1 + 1)))) = some r := by rw [if_pos rfl] at H; exact H
           clear H
           have H := H1
           clear H1
           by_cases c25 : x10_1 > 0
           ·rw [if_pos c25] at H
            have c25b0 : decide (0 < x10_1) = true := decide_eq_true c25
            clear c25
            obtain ⟨ji26, hji26⟩ : ∃ j_ : Int, (wrap64 (x10_1 - 1)) = j_ := ⟨_, rfl⟩
            replace H : (if 0 ≤ (ji26) then (if (ji26) < (l0.length : Int) then ((impl_compare.f k1 ((rd_T83 l0 (ji26)).f0) ((rd_T83 l0 x10_1).f0)).bind fun t1007 => (if t1007 ≥ 0 then (some false) else (impl_GoodSeries.l0 k1 l0 l0 (l0.length : Int) (wrap64 (x10_1 + 1))))) else (none)) else (none)) = some r := by first | (rw [hji26] at H; exact H) | (simp only [hji26] at H ⊢; exact H)
            (try rw [hji26] at A6)
            (try rw [hji26] at A8)
            (try rw [hji26] at A23)
            have hji26w : (IntKind.i64.wrap (x10_1 - 1)) = ji26 := (i64_w _).trans hji26
            by_cases c27 : 0 ≤ (ji26)
            ·rw [if_pos c27] at H
             have c27b0 : decide (0 ≤ (ji26)) = true := decide_eq_true c27
             clear c27
             by_cases c28 : (ji26) < (l0.length : Int)
             ·rw [if_pos c28] at H
              have c28b0 : decide ((ji26) < (l0.length : Int)) = true := decide_eq_true c28
              clear c28
              replace H := Option.bind_eq_some_iff.mp H
              obtain ⟨t1007, A290, H⟩ := H
              replace H : (if t1007 ≥ 0 then (some false) else (impl_GoodSeries.l0 k1 l0 l0 (l0.length : Int) (wrap64 (x10_1 + 1)))) = some r := H
              have A29 := am_ A290
              clear A290
              by_cases c30 : t1007 ≥ 0
              ·rw [if_pos c30] at H
               have c30b0 : decide (0 ≤ t1007) = true := decide_eq_true c30
               clear c30
               obtain rfl := Option.some.inj H
               have p1001 : 0 ≤ (x10_1 : Int) := od_
               have q1001 : x10_1 < (l0.length : Int) := od_
               obtain ⟨ad1001, A1001_0, c1001_0, A1001_1, c1001_1, e1001, hx1001_0, hx1001_1, hl1001_0, hi1001_0, hl1001_1, hi1001_1⟩ := at_T83 HR0.out x10_1 p1001 q1001
               cases e1001
               replace hx1001_0 := kp_ HB hx1001_0
               replace hx1001_1 := kp_ HB hx1001_1
               have HR1001_0 := am_ hi1001_0
               have HC1001_0 := am_ hl1001_0
               clear hi1001_0 hl1001_0
               have HR1001_1 := am_ hi1001_1
               have HC1001_1 := am_ hl1001_1
               clear hi1001_1 hl1001_1
               replace p1001 := eq_true p1001
               replace q1001 := eq_true q1001
               try go_wp2_with (first | ((with_reducible refine gate_dst (N := 4) rfl ?_); (try (refine gate_guard (by rfl) ?_; dsimp only)); refine bx_ 4 #[.slice none 0 0, .slice none 0 0] 83 ?_; intro gb1002 hg w31 hbox hb; have BK1002 := am_ (hbox); have GW1002 := am_ (gs_ hg : w.heap.size ≤ gb1002); replace HB := am_ (below_step bl_ hb); have GE1002 := GW1002; clear hb hbox hg; have hcz32_0 := bc2_0 BK1002; have hcz32_1 := bc2_1 BK1002; have hfz32_0 := bf_ BK1002 0; have hfz32_1 := bf_ BK1002 1))
               have n0_ : Aside0 (((w31.setCell ⟨gb1002, 0, none⟩ (.slice A1001_0 ((rd_T83 l0 x10_1).f0).length c1001_0)).setCell ⟨gb1002, 1, none⟩ (.slice A1001_1 ((rd_T83 l0 x10_1).f1).length c1001_1)).heap[gb1002]? = some (.cells #[.slice A1001_0 ((rd_T83 l0 x10_1).f0).length c1001_0, .slice A1001_1 ((rd_T83 l0 x10_1).f1).length c1001_1] 83 (0, 0))) := ⟨by (with_reducible repeat (first | refine blk_drewN ?_ _ | refine blk_drew ?_ | refine blk_alloc ?_ _)); refine blk_put (cs := #[.slice A1001_0 ((rd_T83 l0 x10_1).f0).length c1001_0, .slice none 0 0]) ?_ 1 _ rfl; (with_reducible repeat (first | refine blk_drewN ?_ _ | refine blk_drew ?_ | refine blk_alloc ?_ _)); refine blk_put (cs := #[.slice none 0 0, .slice none 0 0]) ?_ 0 _ rfl; (with_reducible repeat (first | refine blk_drewN ?_ _ | refine blk_drew ?_ | refine blk_alloc ?_ _)); exact BK1002.out⟩
               have n1_ : Aside0 (Below w.heap.size w ((w31.setCell ⟨gb1002, 0, none⟩ (.slice A1001_0 ((rd_T83 l0 x10_1).f0).length c1001_0)).setCell ⟨gb1002, 1, none⟩ (.slice A1001_1 ((rd_T83 l0 x10_1).f1).length c1001_1))) := ⟨bg_⟩
               (try clear BK1002)
               (try clear HB)
               generalize ((w31.setCell ⟨gb1002, 0, none⟩ (.slice A1001_0 ((rd_T83 l0 x10_1).f0).length c1001_0)).setCell ⟨gb1002, 1, none⟩ (.slice A1001_1 ((rd_T83 l0 x10_1).f1).length c1001_1)) = w33 at n0_ n1_ ⊢
               have BK1002 := n0_
               have HB := n1_
               clear n0_ n1_
               have n0_ := am_ (blk_drew BK1002.out)
               have n1_ := am_ (below_drew1 HB.out)
               clear BK1002
               clear HB
               have BK1002 := n0_
               have HB := n1_
               clear n0_ n1_
               have p1006 : 0 ≤ ((ji26) : Int) := od_
               have q1006 : (ji26) < (l0.length : Int) := od_
               obtain ⟨ad1006, A1006_0, c1006_0, A1006_1, c1006_1, e1006, hx1006_0, hx1006_1, hl1006_0, hi1006_0, hl1006_1, hi1006_1⟩ := at_T83 HR0.out (ji26) p1006 q1006
               have hw1006_1 := hx1006_1
               have hw1006_0 := hx1006_0
               obtain rfl : ad1001 = ad1006 := (by injection e1006)
               replace hx1006_0 := kp_ HB hx1006_0
               replace hx1006_1 := kp_ HB hx1006_1
               have HR1006_0 := am_ hi1006_0
               have HC1006_0 := am_ hl1006_0
               clear hi1006_0 hl1006_0
               have HR1006_1 := am_ hi1006_1
               have HC1006_1 := am_ hl1006_1
               clear hi1006_1 hl1006_1
               replace p1006 := eq_true p1006
               replace q1006 := eq_true q1006
               refine start_ (n := 38) (S := fun w' => w'.cell? ⟨gb1002, 0, none⟩ = some (.slice A1001_0 ((rd_T83 l0 x10_1).f0).length c1001_0) ∧ w'.cell? ⟨gb1002, 1, none⟩ = some (.slice A1001_1 ((rd_T83 l0 x10_1).f1).length c1001_1) ∧ w'.cell? (ad1001.add (((ji26)).toNat * 2)) = some (.slice A1006_0 ((rd_T83 l0 (ji26)).f0).length c1006_0) ∧ w'.cell? ⟨(ad1001.add (((ji26)).toNat * 2)).block, (ad1001.add (((ji26)).toNat * 2)).off + 1, none⟩ = some (.slice A1006_1 ((rd_T83 l0 (ji26)).f1).length c1006_1)) (ds := []) (bz 38 0) (by kernel_rfl) rfl rfl ⟨(blk_cell BK1002.out 0).trans rfl, (blk_cell BK1002.out 1).trans rfl, (kp_ HB hw1006_0 :), (kp_ HB hw1006_1 :)⟩ (fun hHeld => ?_); refine with_tabW impl_GoodSeries.tab6 impl_GoodSeries.bits6 (fun HT_ HW_ => ?_)
               generalize w33.drew = w34 at BK1002 HB HR1006_0 HR1006_1 hx1006_0 hx1006_1 hHeld ⊢
               refine pz_ 0 15 1 ?_
               refine tz_ 1 16 3 ?_
               refine one_ (i := 2) (N := some 17) (bz 38 7) rfl rfl (one_of HT_.out (by kernel_rfl)) (by decide) (fun K hK => ?_)
               refine goes_ Try.func54 (by kernel_rfl) rfl #[.slice A1001_0 ((rd_T83 l0 x10_1).f0).length c1001_0] (by rfl) rfl rfl ag_ ?_
               with_reducible refine (impl_GoodLabels.calls k1 _ _ ((rd_T83 l0 x10_1).f0) true _ ?side1 ?side2 A6.out).mono ?_
               (case side1 => exact cc_ (Kd.C_below HR1001_0.out HB.out))
               (case side2 => exact HC1001_0.out)
               rintro e w35 ⟨rfl, hb⟩
               refine ⟨_, rfl, ?_⟩
               have n0_ := am_ (blk_below (g := gb1002) (vk_ BK1002) hb)
               have n1_ := am_ (below_step bg_ hb)
               clear BK1002
               clear HB
               have BK1002 := n0_
               have HB := n1_
               clear n0_ n1_
               (try clear hb)
               (try clear hb2)
               (try clear hk)
               (try clear hi)
               refine hK.out _ _ ⟨(blk_cell BK1002.out 0).trans rfl, (blk_cell BK1002.out 1).trans rfl, (kp_ HB hw1006_0 :), (kp_ HB hw1006_1 :)⟩ (fun hHeld => ?_)
               clear hK K
               refine norm_ (a' := ?_) ?_ ?_
               rotate_left
               ·show Act.put _ (some 17) _ = _
                simp only [Act.put, List.setIfInBounds_toArray, List.set_cons_zero, List.set_cons_succ, i64_w, i32_w]
                rfl
               refine pz_ 3 18 15 ?_
               refine pz_ 4 19 31 ?_
               refine pz_ 5 20 63 ?_
               refine tz_ 6 21 127 ?_
               refine one_ (i := 7) (N := some 22) (bz 38 255) rfl rfl (one_of HT_.out (by kernel_rfl)) (by decide) (fun K hK => ?_)
               refine goes_ Try.func79 (by kernel_rfl) rfl #[.slice A1001_0 ((rd_T83 l0 x10_1).f0).length c1001_0, .string (⟨#[95, 110, 97, 109, 101]⟩ : ByteArray)] (by rfl) rfl rfl ag_ ?_
               with_reducible refine (impl_valueOf.calls k1 _ _ ((rd_T83 l0 x10_1).f0) (⟨#[95, 110, 97, 109, 101]⟩ : ByteArray) t1004 _ ?side1 ?side2 A8.out).mono ?_
               (case side1 => exact cc_ (Kd.C_below HR1001_0.out HB.out))
               (case side2 => exact HC1001_0.out)
               rintro e w36 ⟨rfl, hb⟩
               refine ⟨_, rfl, ?_⟩
               have n0_ := am_ (blk_below (g := gb1002) (vk_ BK1002) hb)
               have n1_ := am_ (below_step bg_ hb)
               clear BK1002
               clear HB
               have BK1002 := n0_
               have HB := n1_
               clear n0_ n1_
               (try clear hb)
               (try clear hb2)
               (try clear hk)
               (try clear hi)
               refine hK.out _ _ ⟨(blk_cell BK1002.out 0).trans rfl, (blk_cell BK1002.out 1).trans rfl, (kp_ HB hw1006_0 :), (kp_ HB hw1006_1 :)⟩ (fun hHeld => ?_)
               clear hK K
               refine norm_ (a' := ?_) ?_ ?_
               rotate_left
               ·show Act.put _ (some 22) _ = _
                simp only [Act.put, List.setIfInBounds_toArray, List.set_cons_zero, List.set_cons_succ, i64_w, i32_w]
                rfl
               refine pz_ 8 23 511 ?_
               refine pz_ 9 24 1023 ?_
               refine pz_ 10 25 2047 ?_
               refine pz_ 11 26 4095 ?_
               refine tz_ 12 27 8191 ?_
               refine pz_ 13 28 16383 ?_
               refine pz_ 14 29 32767 ?_
               refine pz_ 15 30 65535 ?_
               refine pz_ 16 31 131071 ?_
               refine pz_ 17 32 262143 ?_
               refine tz_ 18 33 524287 ?_
               refine one_ (i := 19) (N := some 34) (bz 38 1048575) rfl rfl (one_of HT_.out (by kernel_rfl)) (by decide) (fun K hK => ?_)
               refine goes_ Try.func98 (by kernel_rfl) rfl #[.slice A1001_1 ((rd_T83 l0 x10_1).f1).length c1001_1] (by rfl) rfl rfl ag_ ?_
               with_reducible refine (impl_GoodSamples.calls k1 _ _ ((rd_T83 l0 x10_1).f1) true _ ?side1 ?side2 A23.out).mono ?_
               (case side1 => exact cc_ (Kd.C_below HR1001_1.out HB.out))
               (case side2 => exact HC1001_1.out)
               rintro e w37 ⟨rfl, hb⟩
               refine ⟨_, rfl, ?_⟩
               have n0_ := am_ (blk_below (g := gb1002) (vk_ BK1002) hb)
               have n1_ := am_ (below_step bg_ hb)
               clear BK1002
               clear HB
               have BK1002 := n0_
               have HB := n1_
               clear n0_ n1_
               (try clear hb)
               (try clear hb2)
               (try clear hk)
               (try clear hi)
               refine hK.out _ _ ⟨(blk_cell BK1002.out 0).trans rfl, (blk_cell BK1002.out 1).trans rfl, (kp_ HB hw1006_0 :), (kp_ HB hw1006_1 :)⟩ (fun hHeld => ?_)
               clear hK K
               refine norm_ (a' := ?_) ?_ ?_
               rotate_left
               ·show Act.put _ (some 34) _ = _
                simp only [Act.put, List.setIfInBounds_toArray, List.set_cons_zero, List.set_cons_succ, i64_w, i32_w]
                rfl
               refine pz_ 20 35 2097151 ?_
               refine pz_ 21 36 4194303 ?_
               refine pz_ 22 37 8388607 ?_
               refine pz_ 23 38 16777215 ?_
               refine pz_ 24 39 33554431 ?_
               refine pz_ 25 40 67108863 ?_
               refine pz_ 26 41 134217727 ?_
               refine pz_ 27 42 268435455 ?_
               refine pz_ 28 43 536870911 ?_
               refine pz_ 29 44 1073741823 ?_
               refine pz_ 30 45 2147483647 ?_
               refine pz_ 32 47 6442450943 ?_
               refine tz_ 31 46 8589934591 ?_
               refine tz_ 33 48 17179869183 ?_
               refine one_ (i := 34) (N := some 49) (bz 38 34359738367) rfl rfl (one_of HT_.out (by kernel_rfl)) (by decide) (fun K hK => ?_)
               refine goes_ Try.func56 (by kernel_rfl) rfl #[.slice A1006_0 ((rd_T83 l0 (ji26)).f0).length c1006_0, .slice A1001_0 ((rd_T83 l0 x10_1).f0).length c1001_0] (by rfl) rfl rfl (by (try simp only [List.map_toArray, List.map_cons, List.map_nil]); first | done | (simp only [hji26]; rfl) | rfl | (simp only [List.length_drop, List.length_take]; rfl)) ?_
               with_reducible refine (impl_compare.calls k1 _ _ ((rd_T83 l0 (ji26)).f0) _ _ ((rd_T83 l0 x10_1).f0) t1007 _ ?side1 ?side2 ?side3 ?side4 A29.out).mono ?_
               (case side1 => exact cc_ (Kd.C_below HR1006_0.out HB.out))
               (case side2 => exact HC1006_0.out)
               (case side3 => exact cc_ (Kd.C_below HR1001_0.out HB.out))
               (case side4 => exact HC1001_0.out)
               rintro e w38 ⟨rfl, hb⟩
               refine ⟨_, rfl, ?_⟩
               have n0_ := am_ (blk_below (g := gb1002) (vk_ BK1002) hb)
               have n1_ := am_ (below_step bg_ hb)
               clear BK1002
               clear HB
               have BK1002 := n0_
               have HB := n1_
               clear n0_ n1_
               (try clear hb)
               (try clear hb2)
               (try clear hk)
               (try clear hi)
               refine hK.out _ _ ⟨(blk_cell BK1002.out 0).trans rfl, (blk_cell BK1002.out 1).trans rfl, (kp_ HB hw1006_0 :), (kp_ HB hw1006_1 :)⟩ (fun hHeld => ?_)
               clear hK K
               refine norm_ (a' := ?_) ?_ ?_
               rotate_left
               ·show Act.put _ (some 49) _ = _
                simp only [Act.put, List.setIfInBounds_toArray, List.set_cons_zero, List.set_cons_succ, i64_w, i32_w]
                rfl
               refine pz_ 35 50 68719476735 ?_
               refine pz_ 36 51 137438953471 ?_
               refine pz_ 37 52 274877906943 ?_
               refine done_ (done_of HT_.out (by kernel_rfl)) ?_
               try go_wp2
               go_ret
               exact ⟨by first | rfl | (simp [errW_none, errW_some] <;> rfl) | (simp only [← hji26]; first | rfl | (simp [errW_none, errW_some] <;> rfl)) | (simp [*, errW_none, errW_some] <;> rfl) | (simp [*, Go.Proofs.Ytknlgignjbghkaa.Gt.nil_bne]; done), bg_⟩
              ·rw [if_neg c30] at H
               have c30b0 : decide (0 ≤ t1007) = false := decide_eq_false c30
               clear c30
               have H' := am_ H
               clear H
               have p1001 : 0 ≤ (x10_1 : Int) := od_
               have q1001 : x10_1 < (l0.length : Int) := od_
               obtain ⟨ad1001, A1001_0, c1001_0, A1001_1, c1001_1, e1001, hx1001_0, hx1001_1, hl1001_0, hi1001_0, hl1001_1, hi1001_1⟩ := at_T83 HR0.out x10_1 p1001 q1001
               cases e1001
               replace hx1001_0 := kp_ HB hx1001_0
               replace hx1001_1 := kp_ HB hx1001_1
               have HR1001_0 := am_ hi1001_0
               have HC1001_0 := am_ hl1001_0
               clear hi1001_0 hl1001_0
               have HR1001_1 := am_ hi1001_1
               have HC1001_1 := am_ hl1001_1
               clear hi1001_1 hl1001_1
               replace p1001 := eq_true p1001
               replace q1001 := eq_true q1001
               try go_wp2_with (first | ((with_reducible refine gate_dst (N := 4) rfl ?_); (try (refine gate_guard (by rfl) ?_; dsimp only)); refine bx_ 4 #[.slice none 0 0, .slice none 0 0] 83 ?_; intro gb1002 hg w39 hbox hb; have BK1002 := am_ (hbox); have GW1002 := am_ (gs_ hg : w.heap.size ≤ gb1002); replace HB := am_ (below_step bl_ hb); have GE1002 := GW1002; clear hb hbox hg; have hcz40_0 := bc2_0 BK1002; have hcz40_1 := bc2_1 BK1002; have hfz40_0 := bf_ BK1002 0; have hfz40_1 := bf_ BK1002 1))
               have n0_ : Aside0 (((w39.setCell ⟨gb1002, 0, none⟩ (.slice A1001_0 ((rd_T83 l0 x10_1).f0).length c1001_0)).setCell ⟨gb1002, 1, none⟩ (.slice A1001_1 ((rd_T83 l0 x10_1).f1).length c1001_1)).heap[gb1002]? = some (.cells #[.slice A1001_0 ((rd_T83 l0 x10_1).f0).length c1001_0, .slice A1001_1 ((rd_T83 l0 x10_1).f1).length c1001_1] 83 (0, 0))) := ⟨by (with_reducible repeat (first | refine blk_drewN ?_ _ | refine blk_drew ?_ | refine blk_alloc ?_ _)); refine blk_put (cs := #[.slice A1001_0 ((rd_T83 l0 x10_1).f0).length c1001_0, .slice none 0 0]) ?_ 1 _ rfl; (with_reducible repeat (first | refine blk_drewN ?_ _ | refine blk_drew ?_ | refine blk_alloc ?_ _)); refine blk_put (cs := #[.slice none 0 0, .slice none 0 0]) ?_ 0 _ rfl; (with_reducible repeat (first | refine blk_drewN ?_ _ | refine blk_drew ?_ | refine blk_alloc ?_ _)); exact BK1002.out⟩
               have n1_ : Aside0 (Below w.heap.size w ((w39.setCell ⟨gb1002, 0, none⟩ (.slice A1001_0 ((rd_T83 l0 x10_1).f0).length c1001_0)).setCell ⟨gb1002, 1, none⟩ (.slice A1001_1 ((rd_T83 l0 x10_1).f1).length c1001_1))) := ⟨bg_⟩
               (try clear BK1002)
               (try clear HB)
               generalize ((w39.setCell ⟨gb1002, 0, none⟩ (.slice A1001_0 ((rd_T83 l0 x10_1).f0).length c1001_0)).setCell ⟨gb1002, 1, none⟩ (.slice A1001_1 ((rd_T83 l0 x10_1).f1).length c1001_1)) = w41 at n0_ n1_ ⊢
               have BK1002 := n0_
               have HB := n1_
               clear n0_ n1_
               have n0_ := am_ (blk_drew BK1002.out)
               have n1_ := am_ (below_drew1 HB.out)
               clear BK1002
               clear HB
               have BK1002 := n0_
               have HB := n1_
               clear n0_ n1_
               have p1006 : 0 ≤ ((ji26) : Int) := od_
               have q1006 : (ji26) < (l0.length : Int) := od_
               obtain ⟨ad1006, A1006_0, c1006_0, A1006_1, c1006_1, e1006, hx1006_0, hx1006_1, hl1006_0, hi1006_0, hl1006_1, hi1006_1⟩ := at_T83 HR0.out (ji26) p1006 q1006
               have hw1006_1 := hx1006_1
               have hw1006_0 := hx1006_0
               obtain rfl : ad1001 = ad1006 := (by injection e1006)
               replace hx1006_0 := kp_ HB hx1006_0
               replace hx1006_1 := kp_ HB hx1006_1
               have HR1006_0 := am_ hi1006_0
               have HC1006_0 := am_ hl1006_0
               clear hi1006_0 hl1006_0
               have HR1006_1 := am_ hi1006_1
               have HC1006_1 := am_ hl1006_1
               clear hi1006_1 hl1006_1
               replace p1006 := eq_true p1006
               replace q1006 := eq_true q1006
               refine start_ (n := 38) (S := fun w' => w'.cell? ⟨gb1002, 0, none⟩ = some (.slice A1001_0 ((rd_T83 l0 x10_1).f0).length c1001_0) ∧ w'.cell? ⟨gb1002, 1, none⟩ = some (.slice A1001_1 ((rd_T83 l0 x10_1).f1).length c1001_1) ∧ w'.cell? (ad1001.add (((ji26)).toNat * 2)) = some (.slice A1006_0 ((rd_T83 l0 (ji26)).f0).length c1006_0) ∧ w'.cell? ⟨(ad1001.add (((ji26)).toNat * 2)).block, (ad1001.add (((ji26)).toNat * 2)).off + 1, none⟩ = some (.slice A1006_1 ((rd_T83 l0 (ji26)).f1).length c1006_1)) (ds := []) (bz 38 0) (by kernel_rfl) rfl rfl ⟨(blk_cell BK1002.out 0).trans rfl, (blk_cell BK1002.out 1).trans rfl, (kp_ HB hw1006_0 :), (kp_ HB hw1006_1 :)⟩ (fun hHeld => ?_); refine with_tabW impl_GoodSeries.tab6 impl_GoodSeries.bits6 (fun HT_ HW_ => ?_)
               generalize w41.drew = w42 at BK1002 HB HR1006_0 HR1006_1 hx1006_0 hx1006_1 hHeld ⊢
               refine pz_ 0 15 1 ?_
               refine tz_ 1 16 3 ?_
               refine one_ (i := 2) (N := some 17) (bz 38 7) rfl rfl (one_of HT_.out (by kernel_rfl)) (by decide) (fun K hK => ?_)
               refine goes_ Try.func54 (by kernel_rfl) rfl #[.slice A1001_0 ((rd_T83 l0 x10_1).f0).length c1001_0] (by rfl) rfl rfl ag_ ?_
               with_reducible refine (impl_GoodLabels.calls k1 _ _ ((rd_T83 l0 x10_1).f0) true _ ?side1 ?side2 A6.out).mono ?_
               (case side1 => exact cc_ (Kd.C_below HR1001_0.out HB.out))
               (case side2 => exact HC1001_0.out)
               rintro e w43 ⟨rfl, hb⟩
               refine ⟨_, rfl, ?_⟩
               have n0_ := am_ (blk_below (g := gb1002) (vk_ BK1002) hb)
               have n1_ := am_ (below_step bg_ hb)
               clear BK1002
               clear HB
               have BK1002 := n0_
               have HB := n1_
               clear n0_ n1_
               (try clear hb)
               (try clear hb2)
               (try clear hk)
               (try clear hi)
               refine hK.out _ _ ⟨(blk_cell BK1002.out 0).trans rfl, (blk_cell BK1002.out 1).trans rfl, (kp_ HB hw1006_0 :), (kp_ HB hw1006_1 :)⟩ (fun hHeld => ?_)
               clear hK K
               refine norm_ (a' := ?_) ?_ ?_
               rotate_left
               ·show Act.put _ (some 17) _ = _
                simp only [Act.put, List.setIfInBounds_toArray, List.set_cons_zero, List.set_cons_succ, i64_w, i32_w]
                rfl
               refine pz_ 3 18 15 ?_
               refine pz_ 4 19 31 ?_
               refine pz_ 5 20 63 ?_
               refine tz_ 6 21 127 ?_
               refine one_ (i := 7) (N := some 22) (bz 38 255) rfl rfl (one_of HT_.out (by kernel_rfl)) (by decide) (fun K hK => ?_)
               refine goes_ Try.func79 (by kernel_rfl) rfl #[.slice A1001_0 ((rd_T83 l0 x10_1).f0).length c1001_0, .string (⟨#[95, 110, 97, 109, 101]⟩ : ByteArray)] (by rfl) rfl rfl ag_ ?_
               with_reducible refine (impl_valueOf.calls k1 _ _ ((rd_T83 l0 x10_1).f0) (⟨#[95, 110, 97, 109, 101]⟩ : ByteArray) t1004 _ ?side1 ?side2 A8.out).mono ?_
               (case side1 => exact cc_ (Kd.C_below HR1001_0.out HB.out))
               (case side2 => exact HC1001_0.out)
               rintro e w44 ⟨rfl, hb⟩
               refine ⟨_, rfl, ?_⟩
               have n0_ := am_ (blk_below (g := gb1002) (vk_ BK1002) hb)
               have n1_ := am_ (below_step bg_ hb)
               clear BK1002
               clear HB
               have BK1002 := n0_
               have HB := n1_
               clear n0_ n1_
               (try clear hb)
               (try clear hb2)
               (try clear hk)
               (try clear hi)
               refine hK.out _ _ ⟨(blk_cell BK1002.out 0).trans rfl, (blk_cell BK1002.out 1).trans rfl, (kp_ HB hw1006_0 :), (kp_ HB hw1006_1 :)⟩ (fun hHeld => ?_)
               clear hK K
               refine norm_ (a' := ?_) ?_ ?_
               rotate_left
               ·show Act.put _ (some 22) _ = _
                simp only [Act.put, List.setIfInBounds_toArray, List.set_cons_zero, List.set_cons_succ, i64_w, i32_w]
                rfl
               refine pz_ 8 23 511 ?_
               refine pz_ 9 24 1023 ?_
               refine pz_ 10 25 2047 ?_
               refine pz_ 11 26 4095 ?_
               refine tz_ 12 27 8191 ?_
               refine pz_ 13 28 16383 ?_
               refine pz_ 14 29 32767 ?_
               refine pz_ 15 30 65535 ?_
               refine pz_ 16 31 131071 ?_
               refine pz_ 17 32 262143 ?_
               refine tz_ 18 33 524287 ?_
               refine one_ (i := 19) (N := some 34) (bz 38 1048575) rfl rfl (one_of HT_.out (by kernel_rfl)) (by decide) (fun K hK => ?_)
               refine goes_ Try.func98 (by kernel_rfl) rfl #[.slice A1001_1 ((rd_T83 l0 x10_1).f1).length c1001_1] (by rfl) rfl rfl ag_ ?_
               with_reducible refine (impl_GoodSamples.calls k1 _ _ ((rd_T83 l0 x10_1).f1) true _ ?side1 ?side2 A23.out).mono ?_
               (case side1 => exact cc_ (Kd.C_below HR1001_1.out HB.out))
               (case side2 => exact HC1001_1.out)
               rintro e w45 ⟨rfl, hb⟩
               refine ⟨_, rfl, ?_⟩
               have n0_ := am_ (blk_below (g := gb1002) (vk_ BK1002) hb)
               have n1_ := am_ (below_step bg_ hb)
               clear BK1002
               clear HB
               have BK1002 := n0_
               have HB := n1_
               clear n0_ n1_
               (try clear hb)
               (try clear hb2)
               (try clear hk)
               (try clear hi)
               refine hK.out _ _ ⟨(blk_cell BK1002.out 0).trans rfl, (blk_cell BK1002.out 1).trans rfl, (kp_ HB hw1006_0 :), (kp_ HB hw1006_1 :)⟩ (fun hHeld => ?_)
               clear hK K
               refine norm_ (a' := ?_) ?_ ?_
               rotate_left
               ·show Act.put _ (some 34) _ = _
                simp only [Act.put, List.setIfInBounds_toArray, List.set_cons_zero, List.set_cons_succ, i64_w, i32_w]
                rfl
               refine pz_ 20 35 2097151 ?_
               refine pz_ 21 36 4194303 ?_
               refine pz_ 22 37 8388607 ?_
               refine pz_ 23 38 16777215 ?_
               refine pz_ 24 39 33554431 ?_
               refine pz_ 25 40 67108863 ?_
               refine pz_ 26 41 134217727 ?_
               refine pz_ 27 42 268435455 ?_
               refine pz_ 28 43 536870911 ?_
               refine pz_ 29 44 1073741823 ?_
               refine pz_ 30 45 2147483647 ?_
               refine pz_ 32 47 6442450943 ?_
               refine tz_ 31 46 8589934591 ?_
               refine tz_ 33 48 17179869183 ?_
               refine one_ (i := 34) (N := some 49) (bz 38 34359738367) rfl rfl (one_of HT_.out (by kernel_rfl)) (by decide) (fun K hK => ?_)
               refine goes_ Try.func56 (by kernel_rfl) rfl #[.slice A1006_0 ((rd_T83 l0 (ji26)).f0).length c1006_0, .slice A1001_0 ((rd_T83 l0 x10_1).f0).length c1001_0] (by rfl) rfl rfl (by (try simp only [List.map_toArray, List.map_cons, List.map_nil]); first | done | (simp only [hji26]; rfl) | rfl | (simp only [List.length_drop, List.length_take]; rfl)) ?_
               with_reducible refine (impl_compare.calls k1 _ _ ((rd_T83 l0 (ji26)).f0) _ _ ((rd_T83 l0 x10_1).f0) t1007 _ ?side1 ?side2 ?side3 ?side4 A29.out).mono ?_
               (case side1 => exact cc_ (Kd.C_below HR1006_0.out HB.out))
               (case side2 => exact HC1006_0.out)
               (case side3 => exact cc_ (Kd.C_below HR1001_0.out HB.out))
               (case side4 => exact HC1001_0.out)
               rintro e w46 ⟨rfl, hb⟩
               refine ⟨_, rfl, ?_⟩
               have n0_ := am_ (blk_below (g := gb1002) (vk_ BK1002) hb)
               have n1_ := am_ (below_step bg_ hb)
               clear BK1002
               clear HB
               have BK1002 := n0_
               have HB := n1_
               clear n0_ n1_
               (try clear hb)
               (try clear hb2)
               (try clear hk)
               (try clear hi)
               refine hK.out _ _ ⟨(blk_cell BK1002.out 0).trans rfl, (blk_cell BK1002.out 1).trans rfl, (kp_ HB hw1006_0 :), (kp_ HB hw1006_1 :)⟩ (fun hHeld => ?_)
               clear hK K
               refine norm_ (a' := ?_) ?_ ?_
               rotate_left
               ·show Act.put _ (some 49) _ = _
                simp only [Act.put, List.setIfInBounds_toArray, List.set_cons_zero, List.set_cons_succ, i64_w, i32_w]
                rfl
               refine pz_ 35 50 68719476735 ?_
               refine pz_ 36 51 137438953471 ?_
               refine pz_ 37 52 274877906943 ?_
               refine done_ (done_of HT_.out (by kernel_rfl)) ?_
               try go_wp2
               go_roundg k1
               case measure => have := HK1.out; omega
               case rel => exact ⟨(wrap64 (x10_1 + 1)), rs_, H', ⟨by have := HK1.out; omega⟩, ⟨bg_⟩⟩
             ·rw [if_neg c28] at H
              exact absurd H (by simp)
            ·rw [if_neg c27] at H
             exact absurd H (by simp)
           ·rw [if_neg c25] at H
            have c25b0 : decide (0 < x10_1) = false := decide_eq_false c25
            clear c25
            have H' := am_ H
            clear H
            have p1001 : 0 ≤ (x10_1 : Int) := od_
            have q1001 : x10_1 < (l0.length : Int) := od_
            obtain ⟨ad1001, A1001_0, c1001_0, A1001_1, c1001_1, e1001, hx1001_0, hx1001_1, hl1001_0, hi1001_0, hl1001_1, hi1001_1⟩ := at_T83 HR0.out x10_1 p1001 q1001
            cases e1001
            replace hx1001_0 := kp_ HB hx1001_0
            replace hx1001_1 := kp_ HB hx1001_1
            have HR1001_0 := am_ hi1001_0
            have HC1001_0 := am_ hl1001_0
            clear hi1001_0 hl1001_0
            have HR1001_1 := am_ hi1001_1
            have HC1001_1 := am_ hl1001_1
            clear hi1001_1 hl1001_1
            replace p1001 := eq_true p1001
            replace q1001 := eq_true q1001
            try go_wp2_with (first | ((with_reducible refine gate_dst (N := 4) rfl ?_); (try (refine gate_guard (by rfl) ?_; dsimp only)); refine bx_ 4 #[.slice none 0 0, .slice none 0 0] 83 ?_; intro gb1002 hg w47 hbox hb; have BK1002 := am_ (hbox); have GW1002 := am_ (gs_ hg : w.heap.size ≤ gb1002); replace HB := am_ (below_step bl_ hb); have GE1002 := GW1002; clear hb hbox hg; have hcz48_0 := bc2_0 BK1002; have hcz48_1 := bc2_1 BK1002; have hfz48_0 := bf_ BK1002 0; have hfz48_1 := bf_ BK1002 1))
            have n0_ : Aside0 (((w47.setCell ⟨gb1002, 0, none⟩ (.slice A1001_0 ((rd_T83 l0 x10_1).f0).length c1001_0)).setCell ⟨gb1002, 1, none⟩ (.slice A1001_1 ((rd_T83 l0 x10_1).f1).length c1001_1)).heap[gb1002]? = some (.cells #[.slice A1001_0 ((rd_T83 l0 x10_1).f0).length c1001_0, .slice A1001_1 ((rd_T83 l0 x10_1).f1).length c1001_1] 83 (0, 0))) := ⟨by (with_reducible repeat (first | refine blk_drewN ?_ _ | refine blk_drew ?_ | refine blk_alloc ?_ _)); refine blk_put (cs := #[.slice A1001_0 ((rd_T83 l0 x10_1).f0).length c1001_0, .slice none 0 0]) ?_ 1 _ rfl; (with_reducible repeat (first | refine blk_drewN ?_ _ | refine blk_drew ?_ | refine blk_alloc ?_ _)); refine blk_put (cs := #[.slice none 0 0, .slice none 0 0]) ?_ 0 _ rfl; (with_reducible repeat (first | refine blk_drewN ?_ _ | refine blk_drew ?_ | refine blk_alloc ?_ _)); exact BK1002.out⟩
            have n1_ : Aside0 (Below w.heap.size w ((w47.setCell ⟨gb1002, 0, none⟩ (.slice A1001_0 ((rd_T83 l0 x10_1).f0).length c1001_0)).setCell ⟨gb1002, 1, none⟩ (.slice A1001_1 ((rd_T83 l0 x10_1).f1).length c1001_1))) := ⟨bg_⟩
            (try clear BK1002)
            (try clear HB)
            generalize ((w47.setCell ⟨gb1002, 0, none⟩ (.slice A1001_0 ((rd_T83 l0 x10_1).f0).length c1001_0)).setCell ⟨gb1002, 1, none⟩ (.slice A1001_1 ((rd_T83 l0 x10_1).f1).length c1001_1)) = w49 at n0_ n1_ ⊢
            have BK1002 := n0_
            have HB := n1_
            clear n0_ n1_
            have n0_ := am_ (blk_drew BK1002.out)
            have n1_ := am_ (below_drew1 HB.out)
            clear BK1002
            clear HB
            have BK1002 := n0_
            have HB := n1_
            clear n0_ n1_
            refine start_ (n := 38) (S := fun w' => w'.cell? ⟨gb1002, 0, none⟩ = some (.slice A1001_0 ((rd_T83 l0 x10_1).f0).length c1001_0) ∧ w'.cell? ⟨gb1002, 1, none⟩ = some (.slice A1001_1 ((rd_T83 l0 x10_1).f1).length c1001_1)) (ds := []) (bz 38 0) (by kernel_rfl) rfl rfl ⟨(blk_cell BK1002.out 0).trans rfl, (blk_cell BK1002.out 1).trans rfl⟩ (fun hHeld => ?_); refine with_tabW impl_GoodSeries.tab6 impl_GoodSeries.bits6 (fun HT_ HW_ => ?_)
            generalize w49.drew = w50 at BK1002 HB hHeld ⊢
            refine pz_ 0 15 1 ?_
            refine tz_ 1 16 3 ?_
            refine one_ (i := 2) (N := some 17) (bz 38 7) rfl rfl (one_of HT_.out (by kernel_rfl)) (by decide) (fun K hK => ?_)
            refine goes_ Try.func54 (by kernel_rfl) rfl #[.slice A1001_0 ((rd_T83 l0 x10_1).f0).length c1001_0] (by rfl) rfl rfl ag_ ?_
            with_reducible refine (impl_GoodLabels.calls k1 _ _ ((rd_T83 l0 x10_1).f0) true _ ?side1 ?side2 A6.out).mono ?_
            (case side1 => exact cc_ (Kd.C_below HR1001_0.out HB.out))
            (case side2 => exact HC1001_0.out)
            rintro e w51 ⟨rfl, hb⟩
            refine ⟨_, rfl, ?_⟩
            have n0_ := am_ (blk_below (g := gb1002) (vk_ BK1002) hb)
            have n1_ := am_ (below_step bg_ hb)
            clear BK1002
            clear HB
            have BK1002 := n0_
            have HB := n1_
            clear n0_ n1_
            (try clear hb)
            (try clear hb2)
            (try clear hk)
            (try clear hi)
            refine hK.out _ _ ⟨(blk_cell BK1002.out 0).trans rfl, (blk_cell BK1002.out 1).trans rfl⟩ (fun hHeld => ?_)
            clear hK K
            refine norm_ (a' := ?_) ?_ ?_
            rotate_left
            ·show Act.put _ (some 17) _ = _
             simp only [Act.put, List.setIfInBounds_toArray, List.set_cons_zero, List.set_cons_succ, i64_w, i32_w]
             rfl
            refine pz_ 3 18 15 ?_
            refine pz_ 4 19 31 ?_
            refine pz_ 5 20 63 ?_
            refine tz_ 6 21 127 ?_
            refine one_ (i := 7) (N := some 22) (bz 38 255) rfl rfl (one_of HT_.out (by kernel_rfl)) (by decide) (fun K hK => ?_)
            refine goes_ Try.func79 (by kernel_rfl) rfl #[.slice A1001_0 ((rd_T83 l0 x10_1).f0).length c1001_0, .string (⟨#[95, 110, 97, 109, 101]⟩ : ByteArray)] (by rfl) rfl rfl ag_ ?_
            with_reducible refine (impl_valueOf.calls k1 _ _ ((rd_T83 l0 x10_1).f0) (⟨#[95, 110, 97, 109, 101]⟩ : ByteArray) t1004 _ ?side1 ?side2 A8.out).mono ?_
            (case side1 => exact cc_ (Kd.C_below HR1001_0.out HB.out))
            (case side2 => exact HC1001_0.out)
            rintro e w52 ⟨rfl, hb⟩
            refine ⟨_, rfl, ?_⟩
            have n0_ := am_ (blk_below (g := gb1002) (vk_ BK1002) hb)
            have n1_ := am_ (below_step bg_ hb)
            clear BK1002
            clear HB
            have BK1002 := n0_
            have HB := n1_
            clear n0_ n1_
            (try clear hb)
            (try clear hb2)
            (try clear hk)
            (try clear hi)
            refine hK.out _ _ ⟨(blk_cell BK1002.out 0).trans rfl, (blk_cell BK1002.out 1).trans rfl⟩ (fun hHeld => ?_)
            clear hK K
            refine norm_ (a' := ?_) ?_ ?_
            rotate_left
            ·show Act.put _ (some 22) _ = _
             simp only [Act.put, List.setIfInBounds_toArray, List.set_cons_zero, List.set_cons_succ, i64_w, i32_w]
             rfl
            refine pz_ 8 23 511 ?_
            refine pz_ 9 24 1023 ?_
            refine pz_ 10 25 2047 ?_
            refine pz_ 11 26 4095 ?_
            refine tz_ 12 27 8191 ?_
            refine pz_ 13 28 16383 ?_
            refine pz_ 14 29 32767 ?_
            refine pz_ 15 30 65535 ?_
            refine pz_ 16 31 131071 ?_
            refine pz_ 17 32 262143 ?_
            refine tz_ 18 33 524287 ?_
            refine one_ (i := 19) (N := some 34) (bz 38 1048575) rfl rfl (one_of HT_.out (by kernel_rfl)) (by decide) (fun K hK => ?_)
            refine goes_ Try.func98 (by kernel_rfl) rfl #[.slice A1001_1 ((rd_T83 l0 x10_1).f1).length c1001_1] (by rfl) rfl rfl ag_ ?_
            with_reducible refine (impl_GoodSamples.calls k1 _ _ ((rd_T83 l0 x10_1).f1) true _ ?side1 ?side2 A23.out).mono ?_
            (case side1 => exact cc_ (Kd.C_below HR1001_1.out HB.out))
            (case side2 => exact HC1001_1.out)
            rintro e w53 ⟨rfl, hb⟩
            refine ⟨_, rfl, ?_⟩
            have n0_ := am_ (blk_below (g := gb1002) (vk_ BK1002) hb)
            have n1_ := am_ (below_step bg_ hb)
            clear BK1002
            clear HB
            have BK1002 := n0_
            have HB := n1_
            clear n0_ n1_
            (try clear hb)
            (try clear hb2)
            (try clear hk)
            (try clear hi)
            refine hK.out _ _ ⟨(blk_cell BK1002.out 0).trans rfl, (blk_cell BK1002.out 1).trans rfl⟩ (fun hHeld => ?_)
            clear hK K
            refine norm_ (a' := ?_) ?_ ?_
            rotate_left
            ·show Act.put _ (some 34) _ = _
             simp only [Act.put, List.setIfInBounds_toArray, List.set_cons_zero, List.set_cons_succ, i64_w, i32_w]
             rfl
            refine pz_ 20 35 2097151 ?_
            refine pz_ 21 36 4194303 ?_
            refine pz_ 22 37 8388607 ?_
            refine pz_ 23 38 16777215 ?_
            refine pz_ 24 39 33554431 ?_
            refine pz_ 25 40 67108863 ?_
            refine uz_ 26 41 134217727 ?_
            refine uz_ 27 42 268435455 ?_
            refine uz_ 28 43 536870911 ?_
            refine uz_ 29 44 1073741823 ?_
            refine uz_ 30 45 2147483647 ?_
            refine uz_ 31 46 4294967295 ?_
            refine uz_ 32 47 8589934591 ?_
            refine uz_ 33 48 17179869183 ?_
            refine uz_ 34 49 34359738367 ?_
            refine uz_ 35 50 68719476735 ?_
            refine pz_ 36 51 137438953471 ?_
            refine pz_ 37 52 274877906943 ?_
            refine done_ (done_of HT_.out (by kernel_rfl)) ?_
            try go_wp2
            go_roundg k1
            case measure => have := HK1.out; omega
            case rel => exact ⟨(wrap64 (x10_1 + 1)), rs_, H', ⟨by have := HK1.out; omega⟩, ⟨bg_⟩⟩
          ·replace c24 := Bool.eq_false_iff.mpr c24
           subst c24
           have H1 : (some false) = some r := by rw [if_neg (show ¬ (false = true) by decide)] at H; exact H
           clear H
           have H := H1
           clear H1
           obtain rfl := Option.some.inj H
           have p1001 : 0 ≤ (x10_1 : Int) := od_
           have q1001 : x10_1 < (l0.length : Int) := od_
           obtain ⟨ad1001, A1001_0, c1001_0, A1001_1, c1001_1, e1001, hx1001_0, hx1001_1, hl1001_0, hi1001_0, hl1001_1, hi1001_1⟩ := at_T83 HR0.out x10_1 p1001 q1001
           cases e1001
           replace hx1001_0 := kp_ HB hx1001_0
           replace hx1001_1 := kp_ HB hx1001_1
           have HR1001_0 := am_ hi1001_0
           have HC1001_0 := am_ hl1001_0
           clear hi1001_0 hl1001_0
           have HR1001_1 := am_ hi1001_1
           have HC1001_1 := am_ hl1001_1
           clear hi1001_1 hl1001_1
           replace p1001 := eq_true p1001
           replace q1001 := eq_true q1001
           try go_wp2_with (first | ((with_reducible refine gate_dst (N := 4) rfl ?_); (try (refine gate_guard (by rfl) ?_; dsimp only)); refine bx_ 4 #[.slice none 0 0, .slice none 0 0] 83 ?_; intro gb1002 hg w54 hbox hb; have BK1002 := am_ (hbox); have GW1002 := am_ (gs_ hg : w.heap.size ≤ gb1002); replace HB := am_ (below_step bl_ hb); have GE1002 := GW1002; clear hb hbox hg; have hcz55_0 := bc2_0 BK1002; have hcz55_1 := bc2_1 BK1002; have hfz55_0 := bf_ BK1002 0; have hfz55_1 := bf_ BK1002 1))
           have n0_ : Aside0 (((w54.setCell ⟨gb1002, 0, none⟩ (.slice A1001_0 ((rd_T83 l0 x10_1).f0).length c1001_0)).setCell ⟨gb1002, 1, none⟩ (.slice A1001_1 ((rd_T83 l0 x10_1).f1).length c1001_1)).heap[gb1002]? = some (.cells #[.slice A1001_0 ((rd_T83 l0 x10_1).f0).length c1001_0, .slice A1001_1 ((rd_T83 l0 x10_1).f1).length c1001_1] 83 (0, 0))) := ⟨by (with_reducible repeat (first | refine blk_drewN ?_ _ | refine blk_drew ?_ | refine blk_alloc ?_ _)); refine blk_put (cs := #[.slice A1001_0 ((rd_T83 l0 x10_1).f0).length c1001_0, .slice none 0 0]) ?_ 1 _ rfl; (with_reducible repeat (first | refine blk_drewN ?_ _ | refine blk_drew ?_ | refine blk_alloc ?_ _)); refine blk_put (cs := #[.slice none 0 0, .slice none 0 0]) ?_ 0 _ rfl; (with_reducible repeat (first | refine blk_drewN ?_ _ | refine blk_drew ?_ | refine blk_alloc ?_ _)); exact BK1002.out⟩
           have n1_ : Aside0 (Below w.heap.size w ((w54.setCell ⟨gb1002, 0, none⟩ (.slice A1001_0 ((rd_T83 l0 x10_1).f0).length c1001_0)).setCell ⟨gb1002, 1, none⟩ (.slice A1001_1 ((rd_T83 l0 x10_1).f1).length c1001_1))) := ⟨bg_⟩
           (try clear BK1002)
           (try clear HB)
           generalize ((w54.setCell ⟨gb1002, 0, none⟩ (.slice A1001_0 ((rd_T83 l0 x10_1).f0).length c1001_0)).setCell ⟨gb1002, 1, none⟩ (.slice A1001_1 ((rd_T83 l0 x10_1).f1).length c1001_1)) = w56 at n0_ n1_ ⊢
           have BK1002 := n0_
           have HB := n1_
           clear n0_ n1_
           have n0_ := am_ (blk_drew BK1002.out)
           have n1_ := am_ (below_drew1 HB.out)
           clear BK1002
           clear HB
           have BK1002 := n0_
           have HB := n1_
           clear n0_ n1_
           refine start_ (n := 38) (S := fun w' => w'.cell? ⟨gb1002, 0, none⟩ = some (.slice A1001_0 ((rd_T83 l0 x10_1).f0).length c1001_0) ∧ w'.cell? ⟨gb1002, 1, none⟩ = some (.slice A1001_1 ((rd_T83 l0 x10_1).f1).length c1001_1)) (ds := []) (bz 38 0) (by kernel_rfl) rfl rfl ⟨(blk_cell BK1002.out 0).trans rfl, (blk_cell BK1002.out 1).trans rfl⟩ (fun hHeld => ?_); refine with_tabW impl_GoodSeries.tab6 impl_GoodSeries.bits6 (fun HT_ HW_ => ?_)
           generalize w56.drew = w57 at BK1002 HB hHeld ⊢
           refine pz_ 0 15 1 ?_
           refine tz_ 1 16 3 ?_
           refine one_ (i := 2) (N := some 17) (bz 38 7) rfl rfl (one_of HT_.out (by kernel_rfl)) (by decide) (fun K hK => ?_)
           refine goes_ Try.func54 (by kernel_rfl) rfl #[.slice A1001_0 ((rd_T83 l0 x10_1).f0).length c1001_0] (by rfl) rfl rfl ag_ ?_
           with_reducible refine (impl_GoodLabels.calls k1 _ _ ((rd_T83 l0 x10_1).f0) true _ ?side1 ?side2 A6.out).mono ?_
           (case side1 => exact cc_ (Kd.C_below HR1001_0.out HB.out))
           (case side2 => exact HC1001_0.out)
           rintro e w58 ⟨rfl, hb⟩
           refine ⟨_, rfl, ?_⟩
           have n0_ := am_ (blk_below (g := gb1002) (vk_ BK1002) hb)
           have n1_ := am_ (below_step bg_ hb)
           clear BK1002
           clear HB
           have BK1002 := n0_
           have HB := n1_
           clear n0_ n1_
           (try clear hb)
           (try clear hb2)
           (try clear hk)
           (try clear hi)
           refine hK.out _ _ ⟨(blk_cell BK1002.out 0).trans rfl, (blk_cell BK1002.out 1).trans rfl⟩ (fun hHeld => ?_)
           clear hK K
           refine norm_ (a' := ?_) ?_ ?_
           rotate_left
           ·show Act.put _ (some 17) _ = _
            simp only [Act.put, List.setIfInBounds_toArray, List.set_cons_zero, List.set_cons_succ, i64_w, i32_w]
            rfl
           refine pz_ 3 18 15 ?_
           refine pz_ 4 19 31 ?_
           refine pz_ 5 20 63 ?_
           refine tz_ 6 21 127 ?_
           refine one_ (i := 7) (N := some 22) (bz 38 255) rfl rfl (one_of HT_.out (by kernel_rfl)) (by decide) (fun K hK => ?_)
           refine goes_ Try.func79 (by kernel_rfl) rfl #[.slice A1001_0 ((rd_T83 l0 x10_1).f0).length c1001_0, .string (⟨#[95, 110, 97, 109, 101]⟩ : ByteArray)] (by rfl) rfl rfl ag_ ?_
           with_reducible refine (impl_valueOf.calls k1 _ _ ((rd_T83 l0 x10_1).f0) (⟨#[95, 110, 97, 109, 101]⟩ : ByteArray) t1004 _ ?side1 ?side2 A8.out).mono ?_
           (case side1 => exact cc_ (Kd.C_below HR1001_0.out HB.out))
           (case side2 => exact HC1001_0.out)
           rintro e w59 ⟨rfl, hb⟩
           refine ⟨_, rfl, ?_⟩
           have n0_ := am_ (blk_below (g := gb1002) (vk_ BK1002) hb)
           have n1_ := am_ (below_step bg_ hb)
           clear BK1002
           clear HB
           have BK1002 := n0_
           have HB := n1_
           clear n0_ n1_
           (try clear hb)
           (try clear hb2)
           (try clear hk)
           (try clear hi)
           refine hK.out _ _ ⟨(blk_cell BK1002.out 0).trans rfl, (blk_cell BK1002.out 1).trans rfl⟩ (fun hHeld => ?_)
           clear hK K
           refine norm_ (a' := ?_) ?_ ?_
           rotate_left
           ·show Act.put _ (some 22) _ = _
            simp only [Act.put, List.setIfInBounds_toArray, List.set_cons_zero, List.set_cons_succ, i64_w, i32_w]
            rfl
           refine pz_ 8 23 511 ?_
           refine pz_ 9 24 1023 ?_
           refine pz_ 10 25 2047 ?_
           refine pz_ 11 26 4095 ?_
           refine tz_ 12 27 8191 ?_
           refine pz_ 13 28 16383 ?_
           refine pz_ 14 29 32767 ?_
           refine pz_ 15 30 65535 ?_
           refine pz_ 16 31 131071 ?_
           refine pz_ 17 32 262143 ?_
           refine tz_ 18 33 524287 ?_
           refine one_ (i := 19) (N := some 34) (bz 38 1048575) rfl rfl (one_of HT_.out (by kernel_rfl)) (by decide) (fun K hK => ?_)
           refine goes_ Try.func98 (by kernel_rfl) rfl #[.slice A1001_1 ((rd_T83 l0 x10_1).f1).length c1001_1] (by rfl) rfl rfl ag_ ?_
           with_reducible refine (impl_GoodSamples.calls k1 _ _ ((rd_T83 l0 x10_1).f1) false _ ?side1 ?side2 A23.out).mono ?_
           (case side1 => exact cc_ (Kd.C_below HR1001_1.out HB.out))
           (case side2 => exact HC1001_1.out)
           rintro e w60 ⟨rfl, hb⟩
           refine ⟨_, rfl, ?_⟩
           have n0_ := am_ (blk_below (g := gb1002) (vk_ BK1002) hb)
           have n1_ := am_ (below_step bg_ hb)
           clear BK1002
           clear HB
           have BK1002 := n0_
           have HB := n1_
           clear n0_ n1_
           (try clear hb)
           (try clear hb2)
           (try clear hk)
           (try clear hi)
           refine hK.out _ _ ⟨(blk_cell BK1002.out 0).trans rfl, (blk_cell BK1002.out 1).trans rfl⟩ (fun hHeld => ?_)
           clear hK K
           refine norm_ (a' := ?_) ?_ ?_
           rotate_left
           ·show Act.put _ (some 34) _ = _
            simp only [Act.put, List.setIfInBounds_toArray, List.set_cons_zero, List.set_cons_succ, i64_w, i32_w]
            rfl
           refine pz_ 20 35 2097151 ?_
           refine pz_ 21 36 4194303 ?_
           refine pz_ 22 37 8388607 ?_
           refine uz_ 23 38 16777215 ?_
           refine uz_ 24 39 33554431 ?_
           refine uz_ 25 40 67108863 ?_
           refine uz_ 26 41 134217727 ?_
           refine uz_ 27 42 268435455 ?_
           refine uz_ 28 43 536870911 ?_
           refine uz_ 29 44 1073741823 ?_
           refine uz_ 30 45 2147483647 ?_
           refine uz_ 31 46 4294967295 ?_
           refine uz_ 32 47 8589934591 ?_
           refine uz_ 33 48 17179869183 ?_
           refine uz_ 34 49 34359738367 ?_
           refine uz_ 35 50 68719476735 ?_
           refine uz_ 36 51 137438953471 ?_
           refine pz_ 37 52 274877906943 ?_
           refine done_ (done_of HT_.out (by kernel_rfl)) ?_
           try go_wp2
           go_ret
           exact ⟨rf_, bg_⟩
       ·replace c7 := Bool.eq_false_iff.mpr c7
        subst c7
        have H1 : (some false) = some r := by rw [if_neg (show ¬ (false = true) by decide)] at H; exact H
        clear H
        have H := H1
        clear H1
        obtain rfl := Option.some.inj H
        have p1001 : 0 ≤ (x10_1 : Int) := od_
        have q1001 : x10_1 < (l0.length : Int) := od_
        obtain ⟨ad1001, A1001_0, c1001_0, A1001_1, c1001_1, e1001, hx1001_0, hx1001_1, hl1001_0, hi1001_0, hl1001_1, hi1001_1⟩ := at_T83 HR0.out x10_1 p1001 q1001
        cases e1001
        replace hx1001_0 := kp_ HB hx1001_0
        replace hx1001_1 := kp_ HB hx1001_1
        have HR1001_0 := am_ hi1001_0
        have HC1001_0 := am_ hl1001_0
        clear hi1001_0 hl1001_0
        have HR1001_1 := am_ hi1001_1
        have HC1001_1 := am_ hl1001_1
        clear hi1001_1 hl1001_1
        replace p1001 := eq_true p1001
        replace q1001 := eq_true q1001
        try go_wp2_with (first | ((with_reducible refine gate_dst (N := 4) rfl ?_); (try (refine gate_guard (by rfl) ?_; dsimp only)); refine bx_ 4 #[.slice none 0 0, .slice none 0 0] 83 ?_; intro gb1002 hg w61 hbox hb; have BK1002 := am_ (hbox); have GW1002 := am_ (gs_ hg : w.heap.size ≤ gb1002); replace HB := am_ (below_step bl_ hb); have GE1002 := GW1002; clear hb hbox hg; have hcz62_0 := bc2_0 BK1002; have hcz62_1 := bc2_1 BK1002; have hfz62_0 := bf_ BK1002 0; have hfz62_1 := bf_ BK1002 1))
        have n0_ : Aside0 (((w61.setCell ⟨gb1002, 0, none⟩ (.slice A1001_0 ((rd_T83 l0 x10_1).f0).length c1001_0)).setCell ⟨gb1002, 1, none⟩ (.slice A1001_1 ((rd_T83 l0 x10_1).f1).length c1001_1)).heap[gb1002]? = some (.cells #[.slice A1001_0 ((rd_T83 l0 x10_1).f0).length c1001_0, .slice A1001_1 ((rd_T83 l0 x10_1).f1).length c1001_1] 83 (0, 0))) := ⟨by (with_reducible repeat (first | refine blk_drewN ?_ _ | refine blk_drew ?_ | refine blk_alloc ?_ _)); refine blk_put (cs := #[.slice A1001_0 ((rd_T83 l0 x10_1).f0).length c1001_0, .slice none 0 0]) ?_ 1 _ rfl; (with_reducible repeat (first | refine blk_drewN ?_ _ | refine blk_drew ?_ | refine blk_alloc ?_ _)); refine blk_put (cs := #[.slice none 0 0, .slice none 0 0]) ?_ 0 _ rfl; (with_reducible repeat (first | refine blk_drewN ?_ _ | refine blk_drew ?_ | refine blk_alloc ?_ _)); exact BK1002.out⟩
        have n1_ : Aside0 (Below w.heap.size w ((w61.setCell ⟨gb1002, 0, none⟩ (.slice A1001_0 ((rd_T83 l0 x10_1).f0).length c1001_0)).setCell ⟨gb1002, 1, none⟩ (.slice A1001_1 ((rd_T83 l0 x10_1).f1).length c1001_1))) := ⟨bg_⟩
        (try clear BK1002)
        (try clear HB)
        generalize ((w61.setCell ⟨gb1002, 0, none⟩ (.slice A1001_0 ((rd_T83 l0 x10_1).f0).length c1001_0)).setCell ⟨gb1002, 1, none⟩ (.slice A1001_1 ((rd_T83 l0 x10_1).f1).length c1001_1)) = w63 at n0_ n1_ ⊢
        have BK1002 := n0_
        have HB := n1_
        clear n0_ n1_
        have n0_ := am_ (blk_drew BK1002.out)
        have n1_ := am_ (below_drew1 HB.out)
        clear BK1002
        clear HB
        have BK1002 := n0_
        have HB := n1_
        clear n0_ n1_
        refine start_ (n := 38) (S := fun w' => w'.cell? ⟨gb1002, 0, none⟩ = some (.slice A1001_0 ((rd_T83 l0 x10_1).f0).length c1001_0) ∧ w'.cell? ⟨gb1002, 1, none⟩ = some (.slice A1001_1 ((rd_T83 l0 x10_1).f1).length c1001_1)) (ds := []) (bz 38 0) (by kernel_rfl) rfl rfl ⟨(blk_cell BK1002.out 0).trans rfl, (blk_cell BK1002.out 1).trans rfl⟩ (fun hHeld => ?_); refine with_tabW impl_GoodSeries.tab6 impl_GoodSeries.bits6 (fun HT_ HW_ => ?_)
        generalize w63.drew = w64 at BK1002 HB hHeld ⊢
        refine pz_ 0 15 1 ?_
        refine tz_ 1 16 3 ?_
        refine one_ (i := 2) (N := some 17) (bz 38 7) rfl rfl (one_of HT_.out (by kernel_rfl)) (by decide) (fun K hK => ?_)
        refine goes_ Try.func54 (by kernel_rfl) rfl #[.slice A1001_0 ((rd_T83 l0 x10_1).f0).length c1001_0] (by rfl) rfl rfl ag_ ?_
        with_reducible refine (impl_GoodLabels.calls k1 _ _ ((rd_T83 l0 x10_1).f0) false _ ?side1 ?side2 A6.out).mono ?_
        (case side1 => exact cc_ (Kd.C_below HR1001_0.out HB.out))
        (case side2 => exact HC1001_0.out)
        rintro e w65 ⟨rfl, hb⟩
        refine ⟨_, rfl, ?_⟩
        have n0_ := am_ (blk_below (g := gb1002) (vk_ BK1002) hb)
        have n1_ := am_ (below_step bg_ hb)
        clear BK1002
        clear HB
        have BK1002 := n0_
        have HB := n1_
        clear n0_ n1_
        (try clear hb)
        (try clear hb2)
        (try clear hk)
        (try clear hi)
        refine hK.out _ _ ⟨(blk_cell BK1002.out 0).trans rfl, (blk_cell BK1002.out 1).trans rfl⟩ (fun hHeld => ?_)
        clear hK K
        refine norm_ (a' := ?_) ?_ ?_
        rotate_left
        ·show Act.put _ (some 17) _ = _
         simp only [Act.put, List.setIfInBounds_toArray, List.set_cons_zero, List.set_cons_succ, i64_w, i32_w]
         rfl
        refine pz_ 3 18 15 ?_
        refine pz_ 4 19 31 ?_
        refine uz_ 5 20 63 ?_
        refine uz_ 6 21 127 ?_
        refine uz_ 7 22 255 ?_
        refine uz_ 8 23 511 ?_
        refine pz_ 9 24 1023 ?_
        refine pz_ 10 25 2047 ?_
        refine uz_ 11 26 4095 ?_
        refine uz_ 12 27 8191 ?_
        refine uz_ 13 28 16383 ?_
        refine uz_ 14 29 32767 ?_
        refine pz_ 15 30 65535 ?_
        refine pz_ 16 31 131071 ?_
        refine uz_ 17 32 262143 ?_
        refine uz_ 18 33 524287 ?_
        refine uz_ 19 34 1048575 ?_
        refine uz_ 20 35 2097151 ?_
        refine pz_ 21 36 4194303 ?_
        refine pz_ 22 37 8388607 ?_
        refine uz_ 23 38 16777215 ?_
        refine uz_ 24 39 33554431 ?_
        refine uz_ 25 40 67108863 ?_
        refine uz_ 26 41 134217727 ?_
        refine uz_ 27 42 268435455 ?_
        refine uz_ 28 43 536870911 ?_
        refine uz_ 29 44 1073741823 ?_
        refine uz_ 30 45 2147483647 ?_
        refine uz_ 31 46 4294967295 ?_
        refine uz_ 32 47 8589934591 ?_
        refine uz_ 33 48 17179869183 ?_
        refine uz_ 34 49 34359738367 ?_
        refine uz_ 35 50 68719476735 ?_
        refine uz_ 36 51 137438953471 ?_
        refine pz_ 37 52 274877906943 ?_
        refine done_ (done_of HT_.out (by kernel_rfl)) ?_
        try go_wp2
        go_ret
        exact ⟨rf_, bg_⟩
      ·rw [if_neg c5] at H
       exact absurd H (by simp)
     ·rw [if_neg c4] at H
      exact absurd H (by simp)
    ·rw [if_neg c3] at H
     have c3b0 : decide (x10_1 < (l0.length : Int)) = false := decide_eq_false c3
     clear c3
     obtain rfl := Option.some.inj H
     go_wp2
     go_ret
     exact ⟨rf_, bl_⟩

/-! ### laws_eqSample: function 155 -/
def laws_eqSample.f (a0_0 : Int) (a0_1 : Int) (a1_0 : Int) (a1_1 : Int) : Option (Bool) := if a0_0 = a1_0 then (if a0_1 = a1_1 then (some true) else (some false)) else (some false)
set_option maxHeartbeats 8000000 in
set_option maxRecDepth 100000 in
theorem laws_eqSample.calls (a0_0 : Int) (a0_1 : Int) (a1_0 : Int) (a1_1 : Int) (r : Bool) (w : World) (h : laws_eqSample.f a0_0 a0_1 a1_0 a1_1 = some r) :
  Calls Try.prog 155 #[.agg #[.int .i64 a0_0, .int .i64 a0_1], .agg #[.int .i64 a1_0, .int .i64 a1_1]] w fun e w' => e = .returned (.bool r) ∧ Below w.heap.size w w' := by
 have hu85 := Try.underlying85
 have HB := am_ (Below.refl w.heap.size w)
 have H : (if a0_0 = a1_0 then (if a0_1 = a1_1 then (some true) else (some false)) else (some false)) = some r := h
 clear h
 by_cases c3 : a0_0 = a1_0
 ·rw [if_pos c3] at H
  have c3b0 : (a0_0 == a1_0) = true := beq_iff_eq.mpr c3
  have c3b1 : (a0_0 != a1_0) = false := bne_eq_false_iff_eq.mpr c3
  clear c3
  by_cases c4 : a0_1 = a1_1
  ·rw [if_pos c4] at H
   have c4b0 : (a0_1 == a1_1) = true := beq_iff_eq.mpr c4
   have c4b1 : (a0_1 != a1_1) = false := bne_eq_false_iff_eq.mpr c4
   clear c4
   obtain rfl := Option.some.inj H
   go_enter Try.func155, Try.ntmps155
   go_wp2_with (first | ((with_reducible refine gate_dst (N := 2) rfl ?_); refine bx_ 2 #[.int .i64 a0_0, .int .i64 a0_1] 85 ?_; intro gb1001 hg w5 hbox hb; have BK1001 := am_ (hbox); have GW1001 := am_ (gs_ hg : w.heap.size ≤ gb1001); replace HB := am_ (below_step bl_ hb); have GE1001 := GW1001; clear hb hbox hg) | ((with_reducible refine gate_dst (N := 3) rfl ?_); refine bx_ 3 #[.int .i64 a1_0, .int .i64 a1_1] 85 ?_; intro gb1002 hg w6 hbox hb; have BK1002 := am_ (hbox); have GW1002 := am_ (gg_ hg : w.heap.size ≤ gb1002); have NB1001_1002 := am_ ((by rw [hg]; exact Nat.ne_of_lt (blk_lt (g := gb1001) (o := .cells #[.int .i64 a0_0, .int .i64 a0_1] 85 (0, 0)) (vk_ BK1001)) : gb1001 ≠ gb1002)); have NB1002_1001 := am_ ((by rw [hg]; exact Nat.ne_of_gt (blk_lt (g := gb1001) (o := .cells #[.int .i64 a0_0, .int .i64 a0_1] 85 (0, 0)) (vk_ BK1001)) : gb1002 ≠ gb1001)); replace BK1001 := am_ (blk_below (g := gb1001) (vk_ BK1001) hb); replace HB := am_ (below_step bg_ hb); have GE1002 := GW1002; clear hb hbox hg; have hnb7 := NB1001_1002.out; have hnc7 := NB1002_1001.out; have hcz8_0 := bc2_0 BK1001; have hcz8_1 := bc2_1 BK1001; have hfz8_0 := bf_ BK1001 0; have hfz8_1 := bf_ BK1001 1; have hcz9_0 := bc2_0 BK1002; have hcz9_1 := bc2_1 BK1002; have hfz9_0 := bf_ BK1002 0; have hfz9_1 := bf_ BK1002 1))
   go_ret
   exact ⟨rf_, bg_⟩
  ·rw [if_neg c4] at H
   have c4b0 : (a0_1 == a1_1) = false := beq_eq_false_iff_ne.mpr c4
   have c4b1 : (a0_1 != a1_1) = true := bne_iff_ne.mpr c4
   obtain rfl := Option.some.inj H
   go_enter Try.func155, Try.ntmps155
   go_wp2_with (first | ((with_reducible refine gate_dst (N := 2) rfl ?_); refine bx_ 2 #[.int .i64 a0_0, .int .i64 a0_1] 85 ?_; intro gb1001 hg w10 hbox hb; have BK1001 := am_ (hbox); have GW1001 := am_ (gs_ hg : w.heap.size ≤ gb1001); replace HB := am_ (below_step bl_ hb); have GE1001 := GW1001; clear hb hbox hg) | ((with_reducible refine gate_dst (N := 3) rfl ?_); refine bx_ 3 #[.int .i64 a1_0, .int .i64 a1_1] 85 ?_; intro gb1002 hg w11 hbox hb; have BK1002 := am_ (hbox); have GW1002 := am_ (gg_ hg : w.heap.size ≤ gb1002); have NB1001_1002 := am_ ((by rw [hg]; exact Nat.ne_of_lt (blk_lt (g := gb1001) (o := .cells #[.int .i64 a0_0, .int .i64 a0_1] 85 (0, 0)) (vk_ BK1001)) : gb1001 ≠ gb1002)); have NB1002_1001 := am_ ((by rw [hg]; exact Nat.ne_of_gt (blk_lt (g := gb1001) (o := .cells #[.int .i64 a0_0, .int .i64 a0_1] 85 (0, 0)) (vk_ BK1001)) : gb1002 ≠ gb1001)); replace BK1001 := am_ (blk_below (g := gb1001) (vk_ BK1001) hb); replace HB := am_ (below_step bg_ hb); have GE1002 := GW1002; clear hb hbox hg; have hnb12 := NB1001_1002.out; have hnc12 := NB1002_1001.out; have hcz13_0 := bc2_0 BK1001; have hcz13_1 := bc2_1 BK1001; have hfz13_0 := bf_ BK1001 0; have hfz13_1 := bf_ BK1001 1; have hcz14_0 := bc2_0 BK1002; have hcz14_1 := bc2_1 BK1002; have hfz14_0 := bf_ BK1002 0; have hfz14_1 := bf_ BK1002 1))
   go_ret
   exact ⟨rf_, bg_⟩
 ·rw [if_neg c3] at H
  have c3b0 : (a0_0 == a1_0) = false := beq_eq_false_iff_ne.mpr c3
  have c3b1 : (a0_0 != a1_0) = true := bne_iff_ne.mpr c3
  obtain rfl := Option.some.inj H
  go_enter Try.func155, Try.ntmps155
  go_wp2_with (first | ((with_reducible refine gate_dst (N := 2) rfl ?_); refine bx_ 2 #[.int .i64 a0_0, .int .i64 a0_1] 85 ?_; intro gb1001 hg w15 hbox hb; have BK1001 := am_ (hbox); have GW1001 := am_ (gs_ hg : w.heap.size ≤ gb1001); replace HB := am_ (below_step bl_ hb); have GE1001 := GW1001; clear hb hbox hg) | ((with_reducible refine gate_dst (N := 3) rfl ?_); refine bx_ 3 #[.int .i64 a1_0, .int .i64 a1_1] 85 ?_; intro gb1002 hg w16 hbox hb; have BK1002 := am_ (hbox); have GW1002 := am_ (gg_ hg : w.heap.size ≤ gb1002); have NB1001_1002 := am_ ((by rw [hg]; exact Nat.ne_of_lt (blk_lt (g := gb1001) (o := .cells #[.int .i64 a0_0, .int .i64 a0_1] 85 (0, 0)) (vk_ BK1001)) : gb1001 ≠ gb1002)); have NB1002_1001 := am_ ((by rw [hg]; exact Nat.ne_of_gt (blk_lt (g := gb1001) (o := .cells #[.int .i64 a0_0, .int .i64 a0_1] 85 (0, 0)) (vk_ BK1001)) : gb1002 ≠ gb1001)); replace BK1001 := am_ (blk_below (g := gb1001) (vk_ BK1001) hb); replace HB := am_ (below_step bg_ hb); have GE1002 := GW1002; clear hb hbox hg; have hnb17 := NB1001_1002.out; have hnc17 := NB1002_1001.out; have hcz18_0 := bc2_0 BK1001; have hcz18_1 := bc2_1 BK1001; have hfz18_0 := bf_ BK1001 0; have hfz18_1 := bf_ BK1001 1; have hcz19_0 := bc2_0 BK1002; have hcz19_1 := bc2_1 BK1002; have hfz19_0 := bf_ BK1002 0; have hfz19_1 := bf_ BK1002 1))
  go_ret
  exact ⟨rf_, bg_⟩

/-! ### laws_eqSampleS: function 118 -/
def laws_eqSampleS.l0 : Nat → List (S85) → List (S85) → Int → Option (Bool)
 | 0, _, _, _ => none
 | k + 1, x0, x1, x5 => if x5 < (x0.length : Int) then (if 0 ≤ x5 then (if x5 < (x1.length : Int) then ((laws_eqSample.f ((rd_T85 x0 x5).f0) ((rd_T85 x0 x5).f1) ((rd_T85 x1 x5).f0) ((rd_T85 x1 x5).f1)).bind fun t1003 => (if t1003 = true then (laws_eqSampleS.l0 k x0 x1 (wrap64 (x5 + 1))) else (some false))) else (none)) else (none)) else (some true)
def laws_eqSampleS.f (k : Nat) (l0 : List (S85)) (l1 : List (S85)) : Option (Bool) := if (l0.length : Int) = (l1.length : Int) then (laws_eqSampleS.l0 k l0 l1 0) else (some false)
theorem laws_eqSampleS.mono_l : ∀ k, (∀ y0 y1 y2, LeO (laws_eqSampleS.l0 k y0 y1 y2) (laws_eqSampleS.l0 (k + 1) y0 y1 y2))
 | 0 => fun _ _ _ r h => by simp [laws_eqSampleS.l0] at h
 | k + 1 => by
  have ih0 := laws_eqSampleS.mono_l k
  ·intro y0 y1 y2
   unfold laws_eqSampleS.l0
   repeat' first
   | with_reducible first | exact ih0 _ _ _ | exact LeO.refl _ | exact LeO.none _ | refine LeO.ite ?_ ?_ | refine LeO.bind ?_ (fun _ => ?_)
   | exact ih0 _ _ _
   | exact LeO.none _
   | refine LeO.ite ?_ ?_
   | refine LeO.bind ?_ (fun _ => ?_)
theorem laws_eqSampleS.mono : ∀ a0 a1 k, LeO (laws_eqSampleS.f k a0 a1) (laws_eqSampleS.f (k + 1) a0 a1) := by
 intro a0 a1 k
 have ih0 := laws_eqSampleS.mono_l k
 unfold laws_eqSampleS.f
 repeat' first
   | with_reducible first | exact ih0 _ _ _ | exact LeO.refl _ | exact LeO.none _ | refine LeO.ite ?_ ?_ | refine LeO.bind ?_ (fun _ => ?_)
   | exact ih0 _ _ _
   | exact LeO.none _
   | refine LeO.ite ?_ ?_
   | refine LeO.bind ?_ (fun _ => ?_)
def laws_eqSampleS.T6 : Bool × List (List Nat × List Nat) := (true, [([], []), ([], []), ([0, 1], [0, 1]), ([2], [2]), ([], []), ([], []), ([4, 5], [4, 5]), ([6], [6]), ([3, 7], [3, 7]), ([8], [8])])
def laws_eqSampleS.B6 : List Nat := [0, 0, 3, 7, 0, 0, 48, 112, 255, 511]
theorem laws_eqSampleS.tab6 : rtab .any (opsOf Try.f118 6) = laws_eqSampleS.T6 := by kernel_rfl
theorem laws_eqSampleS.bits6 : waitsOk laws_eqSampleS.T6.2 laws_eqSampleS.B6 = true := by kernel_rfl
set_option maxHeartbeats 8000000 in
set_option maxRecDepth 100000 in
theorem laws_eqSampleS.calls (k : Nat) (A0 : Option Addr) (c0 : Nat) (l0 : List (S85)) (A1 : Option Addr) (c1 : Nat) (l1 : List (S85)) (r : Bool) (w : World) (hr0 : Kd.C k85 w A0 l0.length l0) (hc0 : l0.length ≤ c0) (hr1 : Kd.C k85 w A1 l1.length l1) (hc1 : l1.length ≤ c1) (h : laws_eqSampleS.f k l0 l1 = some r) :
  Calls Try.prog 118 #[.slice A0 l0.length c0, .slice A1 l1.length c1] w fun e w' => e = .returned (.bool r) ∧ Below w.heap.size w w' := by
 have hu85 := Try.underlying85
 have HR0 := am_ hr0
 have HC0 := am_ hc0
 clear hr0 hc0
 have HR1 := am_ hr1
 have HC1 := am_ hc1
 clear hr1 hc1
 have HB := am_ (Below.refl w.heap.size w)
 have H : (if (l0.length : Int) = (l1.length : Int) then (laws_eqSampleS.l0 k l0 l1 0) else (some false)) = some r := h
 clear h
 by_cases c3 : (l0.length : Int) = (l1.length : Int)
 ·rw [if_pos c3] at H
  have c3b0 : ((l0.length : Int) == (l1.length : Int)) = true := beq_iff_eq.mpr c3
  have c3b1 : ((l0.length : Int) != (l1.length : Int)) = false := bne_eq_false_iff_eq.mpr c3
  have c3b2 : (l0.length == l1.length) = true := by first | simpa using c3 | (simp at c3 ⊢; omega)
  clear c3
  have H' := am_ H
  clear H
  go_enter Try.func118, Try.ntmps118
  go_wp2
  go_loopg [5] k (fun kq v5 w' => ∃ (x5_1 : Int), v5 = .int .i64 x5_1 ∧ Aside0 (laws_eqSampleS.l0 kq l0 l1 x5_1 = some r) ∧ Aside0 (kq ≤ k) ∧ Aside0 (Below w.heap.size w w'))
  case atStart => exact ⟨(0), rs_, H', ⟨Nat.le_refl _⟩, ⟨bl_⟩⟩
  case round =>
   clear H'
   try clear c1
   try clear p2
   try clear c3
   try clear c3b0
   try clear c3b1
   try clear c3b2
   obtain ⟨x5_1, rfl, HA, HK1, HB⟩ := hrel
   cases gk with
   | zero => exact absurd HA.out (by simp [laws_eqSampleS.l0])
   | succ k1 =>
    have H := HA.out
    clear HA
    simp only [laws_eqSampleS.l0] at H
    by_cases c4 : x5_1 < (l0.length : Int)
    ·rw [if_pos c4] at H
     have c4b0 : decide (x5_1 < (l0.length : Int)) = true := decide_eq_true c4
     clear c4
     by_cases c5 : 0 ≤ x5_1
     ·rw [if_pos c5] at H
      have c5b0 : decide (0 ≤ x5_1) = true := decide_eq_true c5
      clear c5
      by_cases c6 : x5_1 < (l1.length : Int)
      ·rw [if_pos c6] at H
       have c6b0 : decide (x5_1 < (l1.length : Int)) = true := decide_eq_true c6
       clear c6
       replace H := Option.bind_eq_some_iff.mp H
       obtain ⟨t1003, A70, H⟩ := H
       replace H : (if t1003 = true then (laws_eqSampleS.l0 k1 l0 l1 (wrap64 (x5_1 + 1))) else (some false)) = some r := H
       have A7 := am_ A70
       clear A70
       by_cases c8 : t1003 = true
       ·subst c8
        have H1 : (laws_eqSampleS.l0 k1 l0 l1 (wrap64 (x5_1 + 1))) = some r := by rw [if_pos rfl] at H; exact H
        clear H
        have H := H1
        clear H1
        have H' := am_ H
        clear H
        try go_wp2
        have n0_ := am_ (below_drew1 HB.out)
        clear HB
        have HB := n0_
        clear n0_
        have p1001 : 0 ≤ (x5_1 : Int) := od_
        have q1001 : x5_1 < (l0.length : Int) := od_
        obtain ⟨ad1001, e1001, hx1001_0, hx1001_1⟩ := at_T85 HR0.out x5_1 p1001 q1001
        have hw1001_1 := hx1001_1
        have hw1001_0 := hx1001_0
        cases e1001
        replace hx1001_0 := kp_ HB hx1001_0
        replace hx1001_1 := kp_ HB hx1001_1
        replace p1001 := eq_true p1001
        replace q1001 := eq_true q1001
        have p1002 : 0 ≤ (x5_1 : Int) := od_
        have q1002 : x5_1 < (l1.length : Int) := od_
        obtain ⟨ad1002, e1002, hx1002_0, hx1002_1⟩ := at_T85 HR1.out x5_1 p1002 q1002
        have hw1002_1 := hx1002_1
        have hw1002_0 := hx1002_0
        cases e1002
        replace hx1002_0 := kp_ HB hx1002_0
        replace hx1002_1 := kp_ HB hx1002_1
        replace p1002 := eq_true p1002
        replace q1002 := eq_true q1002
        refine start_ (n := 10) (S := fun w' => w'.cell? (ad1001.add ((x5_1).toNat * 2)) = some (.int .i64 ((rd_T85 l0 x5_1).f0)) ∧ w'.cell? ⟨(ad1001.add ((x5_1).toNat * 2)).block, (ad1001.add ((x5_1).toNat * 2)).off + 1, none⟩ = some (.int .i64 ((rd_T85 l0 x5_1).f1)) ∧ w'.cell? (ad1002.add ((x5_1).toNat * 2)) = some (.int .i64 ((rd_T85 l1 x5_1).f0)) ∧ w'.cell? ⟨(ad1002.add ((x5_1).toNat * 2)).block, (ad1002.add ((x5_1).toNat * 2)).off + 1, none⟩ = some (.int .i64 ((rd_T85 l1 x5_1).f1))) (ds := []) (bz 10 0) (by kernel_rfl) rfl rfl ⟨(kp_ HB hw1001_0 :), (kp_ HB hw1001_1 :), (kp_ HB hw1002_0 :), (kp_ HB hw1002_1 :)⟩ (fun hHeld => ?_); refine with_tabW laws_eqSampleS.tab6 laws_eqSampleS.bits6 (fun HT_ HW_ => ?_)
        generalize wr.drew = w9 at HB hx1001_0 hx1001_1 hx1002_0 hx1002_1 hHeld ⊢
        refine pz_ 0 17 1 ?_
        refine pz_ 1 18 3 ?_
        refine pz_ 2 19 7 ?_
        refine pz_ 4 21 23 ?_
        refine pz_ 5 22 55 ?_
        refine pz_ 6 23 119 ?_
        refine tz_ 3 20 127 ?_
        refine tz_ 7 24 255 ?_
        refine one_ (i := 8) (N := some 25) (bz 10 511) rfl rfl (one_of HT_.out (by kernel_rfl)) (by decide) (fun K hK => ?_)
        refine goes_ Try.func155 (by kernel_rfl) rfl #[.agg #[.int .i64 ((rd_T85 l0 x5_1).f0), .int .i64 ((rd_T85 l0 x5_1).f1)], .agg #[.int .i64 ((rd_T85 l1 x5_1).f0), .int .i64 ((rd_T85 l1 x5_1).f1)]] (by rfl) rfl rfl ag_ ?_
        with_reducible refine (laws_eqSample.calls ((rd_T85 l0 x5_1).f0) ((rd_T85 l0 x5_1).f1) ((rd_T85 l1 x5_1).f0) ((rd_T85 l1 x5_1).f1) true _ A7.out).mono ?_
        rintro e w10 ⟨rfl, hb⟩
        refine ⟨_, rfl, ?_⟩
        have n0_ := am_ (below_step bl_ hb)
        clear HB
        have HB := n0_
        clear n0_
        (try clear hb)
        (try clear hb2)
        (try clear hk)
        (try clear hi)
        refine hK.out _ _ ⟨(kp_ HB hw1001_0 :), (kp_ HB hw1001_1 :), (kp_ HB hw1002_0 :), (kp_ HB hw1002_1 :)⟩ (fun hHeld => ?_)
        clear hK K
        refine norm_ (a' := ?_) ?_ ?_
        rotate_left
        ·show Act.put _ (some 25) _ = _
         simp only [Act.put, List.setIfInBounds_toArray, List.set_cons_zero, List.set_cons_succ, i64_w, i32_w]
         rfl
        refine pz_ 9 26 1023 ?_
        refine done_ (done_of HT_.out (by kernel_rfl)) ?_
        try go_wp2
        go_roundg k1
        case measure => have := HK1.out; omega
        case rel => exact ⟨(wrap64 (x5_1 + 1)), rs_, H', ⟨by have := HK1.out; omega⟩, ⟨bl_⟩⟩
       ·replace c8 := Bool.eq_false_iff.mpr c8
        subst c8
        have H1 : (some false) = some r := by rw [if_neg (show ¬ (false = true) by decide)] at H; exact H
        clear H
        have H := H1
        clear H1
        obtain rfl := Option.some.inj H
        try go_wp2
        have n0_ := am_ (below_drew1 HB.out)
        clear HB
        have HB := n0_
        clear n0_
        have p1001 : 0 ≤ (x5_1 : Int) := od_
        have q1001 : x5_1 < (l0.length : Int) := od_
        obtain ⟨ad1001, e1001, hx1001_0, hx1001_1⟩ := at_T85 HR0.out x5_1 p1001 q1001
        have hw1001_1 := hx1001_1
        have hw1001_0 := hx1001_0
        cases e1001
        replace hx1001_0 := kp_ HB hx1001_0
        replace hx1001_1 := kp_ HB hx1001_1
        replace p1001 := eq_true p1001
        replace q1001 := eq_true q1001
        have p1002 : 0 ≤ (x5_1 : Int) := od_
        have q1002 : x5_1 < (l1.length : Int) := od_
        obtain ⟨ad1002, e1002, hx1002_0, hx1002_1⟩ := at_T85 HR1.out x5_1 p1002 q1002
        have hw1002_1 := hx1002_1
        have hw1002_0 := hx1002_0
        cases e1002
        replace hx1002_0 := kp_ HB hx1002_0
        replace hx1002_1 := kp_ HB hx1002_1
        replace p1002 := eq_true p1002
        replace q1002 := eq_true q1002
        refine start_ (n := 10) (S := fun w' => w'.cell? (ad1001.add ((x5_1).toNat * 2)) = some (.int .i64 ((rd_T85 l0 x5_1).f0)) ∧ w'.cell? ⟨(ad1001.add ((x5_1).toNat * 2)).block, (ad1001.add ((x5_1).toNat * 2)).off + 1, none⟩ = some (.int .i64 ((rd_T85 l0 x5_1).f1)) ∧ w'.cell? (ad1002.add ((x5_1).toNat * 2)) = some (.int .i64 ((rd_T85 l1 x5_1).f0)) ∧ w'.cell? ⟨(ad1002.add ((x5_1).toNat * 2)).block, (ad1002.add ((x5_1).toNat * 2)).off + 1, none⟩ = some (.int .i64 ((rd_T85 l1 x5_1).f1))) (ds := []) (bz 10 0) (by kernel_rfl) rfl rfl ⟨(kp_ HB hw1001_0 :), (kp_ HB hw1001_1 :), (kp_ HB hw1002_0 :), (kp_ HB hw1002_1 :)⟩ (fun hHeld => ?_); refine with_tabW laws_eqSampleS.tab6 laws_eqSampleS.bits6 (fun HT_ HW_ => ?_)
        generalize wr.drew = w11 at HB hx1001_0 hx1001_1 hx1002_0 hx1002_1 hHeld ⊢
        refine pz_ 0 17 1 ?_
        refine pz_ 1 18 3 ?_
        refine pz_ 2 19 7 ?_
        refine pz_ 4 21 23 ?_
        refine pz_ 5 22 55 ?_
        refine pz_ 6 23 119 ?_
        refine tz_ 3 20 127 ?_
        refine tz_ 7 24 255 ?_
        refine one_ (i := 8) (N := some 25) (bz 10 511) rfl rfl (one_of HT_.out (by kernel_rfl)) (by decide) (fun K hK => ?_)
        refine goes_ Try.func155 (by kernel_rfl) rfl #[.agg #[.int .i64 ((rd_T85 l0 x5_1).f0), .int .i64 ((rd_T85 l0 x5_1).f1)], .agg #[.int .i64 ((rd_T85 l1 x5_1).f0), .int .i64 ((rd_T85 l1 x5_1).f1)]] (by rfl) rfl rfl ag_ ?_
        with_reducible refine (laws_eqSample.calls ((rd_T85 l0 x5_1).f0) ((rd_T85 l0 x5_1).f1) ((rd_T85 l1 x5_1).f0) ((rd_T85 l1 x5_1).f1) false _ A7.out).mono ?_
        rintro e w12 ⟨rfl, hb⟩
        refine ⟨_, rfl, ?_⟩
        have n0_ := am_ (below_step bl_ hb)
        clear HB
        have HB := n0_
        clear n0_
        (try clear hb)
        (try clear hb2)
        (try clear hk)
        (try clear hi)
        refine hK.out _ _ ⟨(kp_ HB hw1001_0 :), (kp_ HB hw1001_1 :), (kp_ HB hw1002_0 :), (kp_ HB hw1002_1 :)⟩ (fun hHeld => ?_)
        clear hK K
        refine norm_ (a' := ?_) ?_ ?_
        rotate_left
        ·show Act.put _ (some 25) _ = _
         simp only [Act.put, List.setIfInBounds_toArray, List.set_cons_zero, List.set_cons_succ, i64_w, i32_w]
         rfl
        refine pz_ 9 26 1023 ?_
        refine done_ (done_of HT_.out (by kernel_rfl)) ?_
        try go_wp2
        go_ret
        exact ⟨rf_, bl_⟩
      ·rw [if_neg c6] at H
       exact absurd H (by simp)
     ·rw [if_neg c5] at H
      exact absurd H (by simp)
    ·rw [if_neg c4] at H
     have c4b0 : decide (x5_1 < (l0.length : Int)) = false := decide_eq_false c4
     clear c4
     obtain rfl := Option.some.inj H
     go_wp2
     go_ret
     exact ⟨rf_, bl_⟩
 ·rw [if_neg c3] at H
  have c3b0 : ((l0.length : Int) == (l1.length : Int)) = false := beq_eq_false_iff_ne.mpr c3
  have c3b1 : ((l0.length : Int) != (l1.length : Int)) = true := bne_iff_ne.mpr c3
  have c3b2 : (l0.length == l1.length) = false := by first | simpa using c3 | (simp at c3 ⊢; omega)
  obtain rfl := Option.some.inj H
  go_enter Try.func118, Try.ntmps118
  go_wp2
  go_ret
  exact ⟨rf_, bl_⟩

/-! ### laws_eqSeries: function 62 -/
def laws_eqSeries.f (k : Nat) (l0_0 : List (S108)) (l0_1 : List (S85)) (l1_0 : List (S108)) (l1_1 : List (S85)) : Option (Bool) := (laws_eqLabelS.f k l0_0 l1_0).bind fun t1003 => (if t1003 = true then ((laws_eqSampleS.f k l0_1 l1_1).bind fun t1004 => (if t1004 = true then (some true) else (some false))) else (some false))
theorem laws_eqSeries.mono : ∀ a0 a1 a2 a3 k, LeO (laws_eqSeries.f k a0 a1 a2 a3) (laws_eqSeries.f (k + 1) a0 a1 a2 a3) := by
 intro a0 a1 a2 a3 k
 unfold laws_eqSeries.f
 repeat' first
   | with_reducible first | exact laws_eqLabelS.mono _ _ _ | exact laws_eqSampleS.mono _ _ _ | exact LeO.refl _ | exact LeO.none _ | refine LeO.ite ?_ ?_ | refine LeO.bind ?_ (fun _ => ?_)
   | exact laws_eqLabelS.mono _ _ _
   | exact laws_eqSampleS.mono _ _ _
   | exact LeO.none _
   | refine LeO.ite ?_ ?_
   | refine LeO.bind ?_ (fun _ => ?_)
set_option maxHeartbeats 8000000 in
set_option maxRecDepth 100000 in
theorem laws_eqSeries.calls (k : Nat) (A0_0 : Option Addr) (c0_0 : Nat) (l0_0 : List (S108)) (A0_1 : Option Addr) (c0_1 : Nat) (l0_1 : List (S85)) (A1_0 : Option Addr) (c1_0 : Nat) (l1_0 : List (S108)) (A1_1 : Option Addr) (c1_1 : Nat) (l1_1 : List (S85)) (r : Bool) (w : World) (hr0_0 : Kd.C k108 w A0_0 l0_0.length l0_0) (hc0_0 : l0_0.length ≤ c0_0) (hr0_1 : Kd.C k85 w A0_1 l0_1.length l0_1) (hc0_1 : l0_1.length ≤ c0_1) (hr1_0 : Kd.C k108 w A1_0 l1_0.length l1_0) (hc1_0 : l1_0.length ≤ c1_0) (hr1_1 : Kd.C k85 w A1_1 l1_1.length l1_1) (hc1_1 : l1_1.length ≤ c1_1) (h : laws_eqSeries.f k l0_0 l0_1 l1_0 l1_1 = some r) :
  Calls Try.prog 62 #[.agg #[.slice A0_0 l0_0.length c0_0, .slice A0_1 l0_1.length c0_1], .agg #[.slice A1_0 l1_0.length c1_0, .slice A1_1 l1_1.length c1_1]] w fun e w' => e = .returned (.bool r) ∧ Below w.heap.size w w' := by
 have hu83 := Try.underlying83
 have HR0_0 := am_ hr0_0
 have HC0_0 := am_ hc0_0
 clear hr0_0 hc0_0
 have HR0_1 := am_ hr0_1
 have HC0_1 := am_ hc0_1
 clear hr0_1 hc0_1
 have HR1_0 := am_ hr1_0
 have HC1_0 := am_ hc1_0
 clear hr1_0 hc1_0
 have HR1_1 := am_ hr1_1
 have HC1_1 := am_ hc1_1
 clear hr1_1 hc1_1
 have HB := am_ (Below.refl w.heap.size w)
 have H : ((laws_eqLabelS.f k l0_0 l1_0).bind fun t1003 => (if t1003 = true then ((laws_eqSampleS.f k l0_1 l1_1).bind fun t1004 => (if t1004 = true then (some true) else (some false))) else (some false))) = some r := h
 clear h
 replace H := Option.bind_eq_some_iff.mp H
 obtain ⟨t1003, A30, H⟩ := H
 replace H : (if t1003 = true then ((laws_eqSampleS.f k l0_1 l1_1).bind fun t1004 => (if t1004 = true then (some true) else (some false))) else (some false)) = some r := H
 have A3 := am_ A30
 clear A30
 by_cases c4 : t1003 = true
 ·subst c4
  have H1 : ((laws_eqSampleS.f k l0_1 l1_1).bind fun t1004 => (if t1004 = true then (some true) else (some false))) = some r := by rw [if_pos rfl] at H; exact H
  clear H
  have H := H1
  clear H1
  replace H := Option.bind_eq_some_iff.mp H
  obtain ⟨t1004, A50, H⟩ := H
  replace H : (if t1004 = true then (some true) else (some false)) = some r := H
  have A5 := am_ A50
  clear A50
  by_cases c6 : t1004 = true
  ·subst c6
   have H1 : (some true) = some r := by rw [if_pos rfl] at H; exact H
   clear H
   have H := H1
   clear H1
   obtain rfl := Option.some.inj H
   go_enter Try.func62, Try.ntmps62
   go_wp2_with (first | ((with_reducible refine gate_dst (N := 2) rfl ?_); refine bx_ 2 #[.slice A0_0 l0_0.length c0_0, .slice A0_1 l0_1.length c0_1] 83 ?_; intro gb1001 hg w7 hbox hb; have BK1001 := am_ (hbox); have GW1001 := am_ (gs_ hg : w.heap.size ≤ gb1001); replace HB := am_ (below_step bl_ hb); have GE1001 := GW1001; clear hb hbox hg) | ((with_reducible refine gate_dst (N := 3) rfl ?_); refine bx_ 3 #[.slice A1_0 l1_0.length c1_0, .slice A1_1 l1_1.length c1_1] 83 ?_; intro gb1002 hg w8 hbox hb; have BK1002 := am_ (hbox); have GW1002 := am_ (gg_ hg : w.heap.size ≤ gb1002); have NB1001_1002 := am_ ((by rw [hg]; exact Nat.ne_of_lt (blk_lt (g := gb1001) (o := .cells #[.slice A0_0 l0_0.length c0_0, .slice A0_1 l0_1.length c0_1] 83 (0, 0)) (vk_ BK1001)) : gb1001 ≠ gb1002)); have NB1002_1001 := am_ ((by rw [hg]; exact Nat.ne_of_gt (blk_lt (g := gb1001) (o := .cells #[.slice A0_0 l0_0.length c0_0, .slice A0_1 l0_1.length c0_1] 83 (0, 0)) (vk_ BK1001)) : gb1002 ≠ gb1001)); replace BK1001 := am_ (blk_below (g := gb1001) (vk_ BK1001) hb); replace HB := am_ (below_step bg_ hb); have GE1002 := GW1002; clear hb hbox hg; have hnb9 := NB1001_1002.out; have hnc9 := NB1002_1001.out; have hcz10_0 := bc2_0 BK1001; have hcz10_1 := bc2_1 BK1001; have hfz10_0 := bf_ BK1001 0; have hfz10_1 := bf_ BK1001 1; have hcz11_0 := bc2_0 BK1002; have hcz11_1 := bc2_1 BK1002; have hfz11_0 := bf_ BK1002 0; have hfz11_1 := bf_ BK1002 1) | ((with_reducible refine gate_callee (f := 26) rfl ?_); refine goesL_ (some 9) rfl rfl Try.func26 (by kernel_rfl) rfl #[.slice A0_0 l0_0.length c0_0, .slice A1_0 l1_0.length c1_0] rfl ag_ ?_; (with_reducible refine (laws_eqLabelS.calls k _ _ l0_0 _ _ l1_0 true _ ?side1 ?side2 ?side3 ?side4 A3.out).mono ?_); (case side1 => exact cc_ (Kd.C_below HR0_0.out HB.out)); (case side2 => exact HC0_0.out); (case side3 => exact cc_ (Kd.C_below HR1_0.out HB.out)); (case side4 => exact HC1_0.out); rintro e w12 ⟨rfl, hb⟩; refine ⟨_, rfl, ?_⟩; replace BK1001 := am_ (blk_below (g := gb1001) (vk_ BK1001) hb); replace BK1002 := am_ (blk_below (g := gb1002) (vk_ BK1002) hb); replace HB := am_ (below_step bg_ hb); (try clear hb); (try clear hb2); (try clear hk); (try clear hi); have hcz13_0 := bc2_0 BK1001; have hcz13_1 := bc2_1 BK1001; have hfz13_0 := bf_ BK1001 0; have hfz13_1 := bf_ BK1001 1; have hcz14_0 := bc2_0 BK1002; have hcz14_1 := bc2_1 BK1002; have hfz14_0 := bf_ BK1002 0; have hfz14_1 := bf_ BK1002 1) | ((with_reducible refine gate_callee (f := 118) rfl ?_); refine goesL_ (some 15) rfl rfl Try.func118 (by kernel_rfl) rfl #[.slice A0_1 l0_1.length c0_1, .slice A1_1 l1_1.length c1_1] rfl ag_ ?_; (with_reducible refine (laws_eqSampleS.calls k _ _ l0_1 _ _ l1_1 true _ ?side1 ?side2 ?side3 ?side4 A5.out).mono ?_); (case side1 => exact cc_ (Kd.C_below HR0_1.out HB.out)); (case side2 => exact HC0_1.out); (case side3 => exact cc_ (Kd.C_below HR1_1.out HB.out)); (case side4 => exact HC1_1.out); rintro e w15 ⟨rfl, hb⟩; refine ⟨_, rfl, ?_⟩; replace BK1001 := am_ (blk_below (g := gb1001) (vk_ BK1001) hb); replace BK1002 := am_ (blk_below (g := gb1002) (vk_ BK1002) hb); replace HB := am_ (below_step bg_ hb); (try clear hb); (try clear hb2); (try clear hk); (try clear hi)))
   go_ret
   exact ⟨rf_, bg_⟩
  ·replace c6 := Bool.eq_false_iff.mpr c6
   subst c6
   have H1 : (some false) = some r := by rw [if_neg (show ¬ (false = true) by decide)] at H; exact H
   clear H
   have H := H1
   clear H1
   obtain rfl := Option.some.inj H
   go_enter Try.func62, Try.ntmps62
   go_wp2_with (first | ((with_reducible refine gate_dst (N := 2) rfl ?_); refine bx_ 2 #[.slice A0_0 l0_0.length c0_0, .slice A0_1 l0_1.length c0_1] 83 ?_; intro gb1001 hg w16 hbox hb; have BK1001 := am_ (hbox); have GW1001 := am_ (gs_ hg : w.heap.size ≤ gb1001); replace HB := am_ (below_step bl_ hb); have GE1001 := GW1001; clear hb hbox hg) | ((with_reducible refine gate_dst (N := 3) rfl ?_); refine bx_ 3 #[.slice A1_0 l1_0.length c1_0, .slice A1_1 l1_1.length c1_1] 83 ?_; intro gb1002 hg w17 hbox hb; have BK1002 := am_ (hbox); have GW1002 := am_ (gg_ hg : w.heap.size ≤ gb1002); have NB1001_1002 := am_ ((by rw [hg]; exact Nat.ne_of_lt (blk_lt (g := gb1001) (o := .cells #[.slice A0_0 l0_0.length c0_0, .slice A0_1 l0_1.length c0_1] 83 (0, 0)) (vk_ BK1001)) : gb1001 ≠ gb1002)); have NB1002_1001 := am_ ((by rw [hg]; exact Nat.ne_of_gt (blk_lt (g := gb1001) (o := .cells #[.slice A0_0 l0_0.length c0_0, .slice A0_1 l0_1.length c0_1] 83 (0, 0)) (vk_ BK1001)) : gb1002 ≠ gb1001)); replace BK1001 := am_ (blk_below (g := gb1001) (vk_ BK1001) hb); replace HB := am_ (below_step bg_ hb); have GE1002 := GW1002; clear hb hbox hg; have hnb18 := NB1001_1002.out; have hnc18 := NB1002_1001.out; have hcz19_0 := bc2_0 BK1001; have hcz19_1 := bc2_1 BK1001; have hfz19_0 := bf_ BK1001 0; have hfz19_1 := bf_ BK1001 1; have hcz20_0 := bc2_0 BK1002; have hcz20_1 := bc2_1 BK1002; have hfz20_0 := bf_ BK1002 0; have hfz20_1 := bf_ BK1002 1) | ((with_reducible refine gate_callee (f := 26) rfl ?_); refine goesL_ (some 9) rfl rfl Try.func26 (by kernel_rfl) rfl #[.slice A0_0 l0_0.length c0_0, .slice A1_0 l1_0.length c1_0] rfl ag_ ?_; (with_reducible refine (laws_eqLabelS.calls k _ _ l0_0 _ _ l1_0 true _ ?side1 ?side2 ?side3 ?side4 A3.out).mono ?_); (case side1 => exact cc_ (Kd.C_below HR0_0.out HB.out)); (case side2 => exact HC0_0.out); (case side3 => exact cc_ (Kd.C_below HR1_0.out HB.out)); (case side4 => exact HC1_0.out); rintro e w21 ⟨rfl, hb⟩; refine ⟨_, rfl, ?_⟩; replace BK1001 := am_ (blk_below (g := gb1001) (vk_ BK1001) hb); replace BK1002 := am_ (blk_below (g := gb1002) (vk_ BK1002) hb); replace HB := am_ (below_step bg_ hb); (try clear hb); (try clear hb2); (try clear hk); (try clear hi); have hcz22_0 := bc2_0 BK1001; have hcz22_1 := bc2_1 BK1001; have hfz22_0 := bf_ BK1001 0; have hfz22_1 := bf_ BK1001 1; have hcz23_0 := bc2_0 BK1002; have hcz23_1 := bc2_1 BK1002; have hfz23_0 := bf_ BK1002 0; have hfz23_1 := bf_ BK1002 1) | ((with_reducible refine gate_callee (f := 118) rfl ?_); refine goesL_ (some 15) rfl rfl Try.func118 (by kernel_rfl) rfl #[.slice A0_1 l0_1.length c0_1, .slice A1_1 l1_1.length c1_1] rfl ag_ ?_; (with_reducible refine (laws_eqSampleS.calls k _ _ l0_1 _ _ l1_1 false _ ?side1 ?side2 ?side3 ?side4 A5.out).mono ?_); (case side1 => exact cc_ (Kd.C_below HR0_1.out HB.out)); (case side2 => exact HC0_1.out); (case side3 => exact cc_ (Kd.C_below HR1_1.out HB.out)); (case side4 => exact HC1_1.out); rintro e w24 ⟨rfl, hb⟩; refine ⟨_, rfl, ?_⟩; replace BK1001 := am_ (blk_below (g := gb1001) (vk_ BK1001) hb); replace BK1002 := am_ (blk_below (g := gb1002) (vk_ BK1002) hb); replace HB := am_ (below_step bg_ hb); (try clear hb); (try clear hb2); (try clear hk); (try clear hi)))
   go_ret
   exact ⟨rf_, bg_⟩
 ·replace c4 := Bool.eq_false_iff.mpr c4
  subst c4
  have H1 : (some false) = some r := by rw [if_neg (show ¬ (false = true) by decide)] at H; exact H
  clear H
  have H := H1
  clear H1
  obtain rfl := Option.some.inj H
  go_enter Try.func62, Try.ntmps62
  go_wp2_with (first | ((with_reducible refine gate_dst (N := 2) rfl ?_); refine bx_ 2 #[.slice A0_0 l0_0.length c0_0, .slice A0_1 l0_1.length c0_1] 83 ?_; intro gb1001 hg w25 hbox hb; have BK1001 := am_ (hbox); have GW1001 := am_ (gs_ hg : w.heap.size ≤ gb1001); replace HB := am_ (below_step bl_ hb); have GE1001 := GW1001; clear hb hbox hg) | ((with_reducible refine gate_dst (N := 3) rfl ?_); refine bx_ 3 #[.slice A1_0 l1_0.length c1_0, .slice A1_1 l1_1.length c1_1] 83 ?_; intro gb1002 hg w26 hbox hb; have BK1002 := am_ (hbox); have GW1002 := am_ (gg_ hg : w.heap.size ≤ gb1002); have NB1001_1002 := am_ ((by rw [hg]; exact Nat.ne_of_lt (blk_lt (g := gb1001) (o := .cells #[.slice A0_0 l0_0.length c0_0, .slice A0_1 l0_1.length c0_1] 83 (0, 0)) (vk_ BK1001)) : gb1001 ≠ gb1002)); have NB1002_1001 := am_ ((by rw [hg]; exact Nat.ne_of_gt (blk_lt (g := gb1001) (o := .cells #[.slice A0_0 l0_0.length c0_0, .slice A0_1 l0_1.length c0_1] 83 (0, 0)) (vk_ BK1001)) : gb1002 ≠ gb1001)); replace BK1001 := am_ (blk_below (g := gb1001) (vk_ BK1001) hb); replace HB := am_ (below_step bg_ hb); have GE1002 := GW1002; clear hb hbox hg; have hnb27 := NB1001_1002.out; have hnc27 := NB1002_1001.out; have hcz28_0 := bc2_0 BK1001; have hcz28_1 := bc2_1 BK1001; have hfz28_0 := bf_ BK1001 0; have hfz28_1 := bf_ BK1001 1; have hcz29_0 := bc2_0 BK1002; have hcz29_1 := bc2_1 BK1002; have hfz29_0 := bf_ BK1002 0; have hfz29_1 := bf_ BK1002 1) | ((with_reducible refine gate_callee (f := 26) rfl ?_); refine goesL_ (some 9) rfl rfl Try.func26 (by kernel_rfl) rfl #[.slice A0_0 l0_0.length c0_0, .slice A1_0 l1_0.length c1_0] rfl ag_ ?_; (with_reducible refine (laws_eqLabelS.calls k _ _ l0_0 _ _ l1_0 false _ ?side1 ?side2 ?side3 ?side4 A3.out).mono ?_); (case side1 => exact cc_ (Kd.C_below HR0_0.out HB.out)); (case side2 => exact HC0_0.out); (case side3 => exact cc_ (Kd.C_below HR1_0.out HB.out)); (case side4 => exact HC1_0.out); rintro e w30 ⟨rfl, hb⟩; refine ⟨_, rfl, ?_⟩; replace BK1001 := am_ (blk_below (g := gb1001) (vk_ BK1001) hb); replace BK1002 := am_ (blk_below (g := gb1002) (vk_ BK1002) hb); replace HB := am_ (below_step bg_ hb); (try clear hb); (try clear hb2); (try clear hk); (try clear hi)))
  go_ret
  exact ⟨rf_, bg_⟩

/-! ### laws_eqSeriesS: function 17 -/
def laws_eqSeriesS.l0 : Nat → List (S83) → List (S83) → Int → Option (Bool)
 | 0, _, _, _ => none
 | k + 1, x0, x1, x5 => if x5 < (x0.length : Int) then (if 0 ≤ x5 then (if x5 < (x1.length : Int) then ((laws_eqSeries.f k ((rd_T83 x0 x5).f0) ((rd_T83 x0 x5).f1) ((rd_T83 x1 x5).f0) ((rd_T83 x1 x5).f1)).bind fun t1003 => (if t1003 = true then (laws_eqSeriesS.l0 k x0 x1 (wrap64 (x5 + 1))) else (some false))) else (none)) else (none)) else (some true)
def laws_eqSeriesS.f (k : Nat) (l0 : List (S83)) (l1 : List (S83)) : Option (Bool) := if (l0.length : Int) = (l1.length : Int) then (laws_eqSeriesS.l0 k l0 l1 0) else (some false)
theorem laws_eqSeriesS.mono_l : ∀ k, (∀ y0 y1 y2, LeO (laws_eqSeriesS.l0 k y0 y1 y2) (laws_eqSeriesS.l0 (k + 1) y0 y1 y2))
 | 0 => fun _ _ _ r h => by simp [laws_eqSeriesS.l0] at h
 | k + 1 => by
  have ih0 := laws_eqSeriesS.mono_l k
  ·intro y0 y1 y2
   unfold laws_eqSeriesS.l0
   repeat' first
   | with_reducible first | exact ih0 _ _ _ | exact laws_eqSeries.mono _ _ _ _ _ | exact LeO.refl _ | exact LeO.none _ | refine LeO.ite ?_ ?_ | refine LeO.bind ?_ (fun _ => ?_)
   | exact ih0 _ _ _
   | exact laws_eqSeries.mono _ _ _ _ _
   | exact LeO.none _
   | refine LeO.ite ?_ ?_
   | refine LeO.bind ?_ (fun _ => ?_)
theorem laws_eqSeriesS.mono : ∀ a0 a1 k, LeO (laws_eqSeriesS.f k a0 a1) (laws_eqSeriesS.f (k + 1) a0 a1) := by
 intro a0 a1 k
 have ih0 := laws_eqSeriesS.mono_l k
 unfold laws_eqSeriesS.f
 repeat' first
   | with_reducible first | exact ih0 _ _ _ | exact laws_eqSeries.mono _ _ _ _ _ | exact LeO.refl _ | exact LeO.none _ | refine LeO.ite ?_ ?_ | refine LeO.bind ?_ (fun _ => ?_)
   | exact ih0 _ _ _
   | exact laws_eqSeries.mono _ _ _ _ _
   | exact LeO.none _
   | refine LeO.ite ?_ ?_
   | refine LeO.bind ?_ (fun _ => ?_)
def laws_eqSeriesS.T6 : Bool × List (List Nat × List Nat) := (true, [([], []), ([], []), ([0, 1], [0, 1]), ([2], [2]), ([], []), ([], []), ([4, 5], [4, 5]), ([6], [6]), ([3, 7], [3, 7]), ([8], [8])])
def laws_eqSeriesS.B6 : List Nat := [0, 0, 3, 7, 0, 0, 48, 112, 255, 511]
theorem laws_eqSeriesS.tab6 : rtab .any (opsOf Try.f17 6) = laws_eqSeriesS.T6 := by kernel_rfl
theorem laws_eqSeriesS.bits6 : waitsOk laws_eqSeriesS.T6.2 laws_eqSeriesS.B6 = true := by kernel_rfl
set_option maxHeartbeats 8000000 in
set_option maxRecDepth 100000 in
theorem laws_eqSeriesS.calls (k : Nat) (A0 : Option Addr) (c0 : Nat) (l0 : List (S83)) (A1 : Option Addr) (c1 : Nat) (l1 : List (S83)) (r : Bool) (w : World) (hr0 : Kd.C k83 w A0 l0.length l0) (hc0 : l0.length ≤ c0) (hr1 : Kd.C k83 w A1 l1.length l1) (hc1 : l1.length ≤ c1) (h : laws_eqSeriesS.f k l0 l1 = some r) :
  Calls Try.prog 17 #[.slice A0 l0.length c0, .slice A1 l1.length c1] w fun e w' => e = .returned (.bool r) ∧ Below w.heap.size w w' := by
 have hu83 := Try.underlying83
 have HR0 := am_ hr0
 have HC0 := am_ hc0
 clear hr0 hc0
 have HR1 := am_ hr1
 have HC1 := am_ hc1
 clear hr1 hc1
 have HB := am_ (Below.refl w.heap.size w)
 have H : (if (l0.length : Int) = (l1.length : Int) then (laws_eqSeriesS.l0 k l0 l1 0) else (some false)) = some r := h
 clear h
 by_cases c3 : (l0.length : Int) = (l1.length : Int)
 ·rw [if_pos c3] at H
  have c3b0 : ((l0.length : Int) == (l1.length : Int)) = true := beq_iff_eq.mpr c3
  have c3b1 : ((l0.length : Int) != (l1.length : Int)) = false := bne_eq_false_iff_eq.mpr c3
  have c3b2 : (l0.length == l1.length) = true := by first | simpa using c3 | (simp at c3 ⊢; omega)
  clear c3
  have H' := am_ H
  clear H
  go_enter Try.func17, Try.ntmps17
  go_wp2
  go_loopg [5] k (fun kq v5 w' => ∃ (x5_1 : Int), v5 = .int .i64 x5_1 ∧ Aside0 (laws_eqSeriesS.l0 kq l0 l1 x5_1 = some r) ∧ Aside0 (kq ≤ k) ∧ Aside0 (Below w.heap.size w w'))
  case atStart => exact ⟨(0), rs_, H', ⟨Nat.le_refl _⟩, ⟨bl_⟩⟩
  case round =>
   clear H'
   try clear c1
   try clear p2
   try clear c3
   try clear c3b0
   try clear c3b1
   try clear c3b2
   obtain ⟨x5_1, rfl, HA, HK1, HB⟩ := hrel
   cases gk with
   | zero => exact absurd HA.out (by simp [laws_eqSeriesS.l0])
   | succ k1 =>
    have H := HA.out
    clear HA
    simp only [laws_eqSeriesS.l0] at H
    by_cases c4 : x5_1 < (l0.length : Int)
    ·rw [if_pos c4] at H
     have c4b0 : decide (x5_1 < (l0.length : Int)) = true := decide_eq_true c4
     clear c4
     by_cases c5 : 0 ≤ x5_1
     ·rw [if_pos c5] at H
      have c5b0 : decide (0 ≤ x5_1) = true := decide_eq_true c5
      clear c5
      by_cases c6 : x5_1 < (l1.length : Int)
      ·rw [if_pos c6] at H
       have c6b0 : decide (x5_1 < (l1.length : Int)) = true := decide_eq_true c6
       clear c6
       replace H := Option.bind_eq_some_iff.mp H
       obtain ⟨t1003, A70, H⟩ := H
       replace H : (if t1003 = true then (laws_eqSeriesS.l0 k1 l0 l1 (wrap64 (x5_1 + 1))) else (some false)) = some r := H
       have A7 := am_ A70
       clear A70
       by_cases c8 : t1003 = true
       ·subst c8
        have H1 : (laws_eqSeriesS.l0 k1 l0 l1 (wrap64 (x5_1 + 1))) = some r := by rw [if_pos rfl] at H; exact H
        clear H
        have H := H1
        clear H1
        have H' := am_ H
        clear H
        try go_wp2
        have n0_ := am_ (below_drew1 HB.out)
        clear HB
        have HB := n0_
        clear n0_
        have p1001 : 0 ≤ (x5_1 : Int) := od_
        have q1001 : x5_1 < (l0.length : Int) := od_
        obtain ⟨ad1001, A1001_0, c1001_0, A1001_1, c1001_1, e1001, hx1001_0, hx1001_1, hl1001_0, hi1001_0, hl1001_1, hi1001_1⟩ := at_T83 HR0.out x5_1 p1001 q1001
        have hw1001_1 := hx1001_1
        have hw1001_0 := hx1001_0
        cases e1001
        replace hx1001_0 := kp_ HB hx1001_0
        replace hx1001_1 := kp_ HB hx1001_1
        have HR1001_0 := am_ hi1001_0
        have HC1001_0 := am_ hl1001_0
        clear hi1001_0 hl1001_0
        have HR1001_1 := am_ hi1001_1
        have HC1001_1 := am_ hl1001_1
        clear hi1001_1 hl1001_1
        replace p1001 := eq_true p1001
        replace q1001 := eq_true q1001
        have p1002 : 0 ≤ (x5_1 : Int) := od_
        have q1002 : x5_1 < (l1.length : Int) := od_
        obtain ⟨ad1002, A1002_0, c1002_0, A1002_1, c1002_1, e1002, hx1002_0, hx1002_1, hl1002_0, hi1002_0, hl1002_1, hi1002_1⟩ := at_T83 HR1.out x5_1 p1002 q1002
        have hw1002_1 := hx1002_1
        have hw1002_0 := hx1002_0
        cases e1002
        replace hx1002_0 := kp_ HB hx1002_0
        replace hx1002_1 := kp_ HB hx1002_1
        have HR1002_0 := am_ hi1002_0
        have HC1002_0 := am_ hl1002_0
        clear hi1002_0 hl1002_0
        have HR1002_1 := am_ hi1002_1
        have HC1002_1 := am_ hl1002_1
        clear hi1002_1 hl1002_1
        replace p1002 := eq_true p1002
        replace q1002 := eq_true q1002
        refine start_ (n := 10) (S := fun w' => w'.cell? (ad1001.add ((x5_1).toNat * 2)) = some (.slice A1001_0 ((rd_T83 l0 x5_1).f0).length c1001_0) ∧ w'.cell? ⟨(ad1001.add ((x5_1).toNat * 2)).block, (ad1001.add ((x5_1).toNat * 2)).off + 1, none⟩ = some (.slice A1001_1 ((rd_T83 l0 x5_1).f1).length c1001_1) ∧ w'.cell? (ad1002.add ((x5_1).toNat * 2)) = some (.slice A1002_0 ((rd_T83 l1 x5_1).f0).length c1002_0) ∧ w'.cell? ⟨(ad1002.add ((x5_1).toNat * 2)).block, (ad1002.add ((x5_1).toNat * 2)).off + 1, none⟩ = some (.slice A1002_1 ((rd_T83 l1 x5_1).f1).length c1002_1)) (ds := []) (bz 10 0) (by kernel_rfl) rfl rfl ⟨(kp_ HB hw1001_0 :), (kp_ HB hw1001_1 :), (kp_ HB hw1002_0 :), (kp_ HB hw1002_1 :)⟩ (fun hHeld => ?_); refine with_tabW laws_eqSeriesS.tab6 laws_eqSeriesS.bits6 (fun HT_ HW_ => ?_)
        generalize wr.drew = w9 at HB HR1001_0 HR1001_1 HR1002_0 HR1002_1 hx1001_0 hx1001_1 hx1002_0 hx1002_1 hHeld ⊢
        refine pz_ 0 17 1 ?_
        refine pz_ 1 18 3 ?_
        refine pz_ 2 19 7 ?_
        refine pz_ 4 21 23 ?_
        refine pz_ 5 22 55 ?_
        refine pz_ 6 23 119 ?_
        refine tz_ 3 20 127 ?_
        refine tz_ 7 24 255 ?_
        refine one_ (i := 8) (N := some 25) (bz 10 511) rfl rfl (one_of HT_.out (by kernel_rfl)) (by decide) (fun K hK => ?_)
        refine goes_ Try.func62 (by kernel_rfl) rfl #[.agg #[.slice A1001_0 ((rd_T83 l0 x5_1).f0).length c1001_0, .slice A1001_1 ((rd_T83 l0 x5_1).f1).length c1001_1], .agg #[.slice A1002_0 ((rd_T83 l1 x5_1).f0).length c1002_0, .slice A1002_1 ((rd_T83 l1 x5_1).f1).length c1002_1]] (by rfl) rfl rfl ag_ ?_
        with_reducible refine (laws_eqSeries.calls k1 _ _ ((rd_T83 l0 x5_1).f0) _ _ ((rd_T83 l0 x5_1).f1) _ _ ((rd_T83 l1 x5_1).f0) _ _ ((rd_T83 l1 x5_1).f1) true _ ?side1 ?side2 ?side3 ?side4 ?side5 ?side6 ?side7 ?side8 A7.out).mono ?_
        (case side1 => exact cc_ (Kd.C_below HR1001_0.out HB.out))
        (case side2 => exact HC1001_0.out)
        (case side3 => exact cc_ (Kd.C_below HR1001_1.out HB.out))
        (case side4 => exact HC1001_1.out)
        (case side5 => exact cc_ (Kd.C_below HR1002_0.out HB.out))
        (case side6 => exact HC1002_0.out)
        (case side7 => exact cc_ (Kd.C_below HR1002_1.out HB.out))
        (case side8 => exact HC1002_1.out)
        rintro e w10 ⟨rfl, hb⟩
        refine ⟨_, rfl, ?_⟩
        have n0_ := am_ (below_step bl_ hb)
        clear HB
        have HB := n0_
        clear n0_
        (try clear hb)
        (try clear hb2)
        (try clear hk)
        (try clear hi)
        refine hK.out _ _ ⟨(kp_ HB hw1001_0 :), (kp_ HB hw1001_1 :), (kp_ HB hw1002_0 :), (kp_ HB hw1002_1 :)⟩ (fun hHeld => ?_)
        clear hK K
        refine norm_ (a' := ?_) ?_ ?_
        rotate_left
        ·show Act.put _ (some 25) _ = _
         simp only [Act.put, List.setIfInBounds_toArray, List.set_cons_zero, List.set_cons_succ, i64_w, i32_w]
         rfl
        refine pz_ 9 26 1023 ?_
        refine done_ (done_of HT_.out (by kernel_rfl)) ?_
        try go_wp2
        go_roundg k1
        case measure => have := HK1.out; omega
        case rel => exact ⟨(wrap64 (x5_1 + 1)), rs_, H', ⟨by have := HK1.out; omega⟩, ⟨bl_⟩⟩
       ·replace c8 := Bool.eq_false_iff.mpr c8
        subst c8
        have H1 : (some false) = some r := by rw [if_neg (show ¬ (false = true) by decide)] at H; exact H
        clear H
        have H := H1
        clear H1
        obtain rfl := Option.some.inj H
        try go_wp2
        have n0_ := am_ (below_drew1 HB.out)
        clear HB
        have HB := n0_
        clear n0_
        have p1001 : 0 ≤ (x5_1 : Int) := od_
        have q1001 : x5_1 < (l0.length : Int) := od_
        obtain ⟨ad1001, A1001_0, c1001_0, A1001_1, c1001_1, e1001, hx1001_0, hx1001_1, hl1001_0, hi1001_0, hl1001_1, hi1001_1⟩ := at_T83 HR0.out x5_1 p1001 q1001
        have hw1001_1 := hx1001_1
        have hw1001_0 := hx1001_0
        cases e1001
        replace hx1001_0 := kp_ HB hx1001_0
        replace hx1001_1 := kp_ HB hx1001_1
        have HR1001_0 := am_ hi1001_0
        have HC1001_0 := am_ hl1001_0
        clear hi1001_0 hl1001_0
        have HR1001_1 := am_ hi1001_1
        have HC1001_1 := am_ hl1001_1
        clear hi1001_1 hl1001_1
        replace p1001 := eq_true p1001
        replace q1001 := eq_true q1001
        have p1002 : 0 ≤ (x5_1 : Int) := od_
        have q1002 : x5_1 < (l1.length : Int) := od_
        obtain ⟨ad1002, A1002_0, c1002_0, A1002_1, c1002_1, e1002, hx1002_0, hx1002_1, hl1002_0, hi1002_0, hl1002_1, hi1002_1⟩ := at_T83 HR1.out x5_1 p1002 q1002
        have hw1002_1 := hx1002_1
        have hw1002_0 := hx1002_0
        cases e1002
        replace hx1002_0 := kp_ HB hx1002_0
        replace hx1002_1 := kp_ HB hx1002_1
        have HR1002_0 := am_ hi1002_0
        have HC1002_0 := am_ hl1002_0
        clear hi1002_0 hl1002_0
        have HR1002_1 := am_ hi1002_1
        have HC1002_1 := am_ hl1002_1
        clear hi1002_1 hl1002_1
        replace p1002 := eq_true p1002
        replace q1002 := eq_true q1002
        refine start_ (n := 10) (S := fun w' => w'.cell? (ad1001.add ((x5_1).toNat * 2)) = some (.slice A1001_0 ((rd_T83 l0 x5_1).f0).length c1001_0) ∧ w'.cell? ⟨(ad1001.add ((x5_1).toNat * 2)).block, (ad1001.add ((x5_1).toNat * 2)).off + 1, none⟩ = some (.slice A1001_1 ((rd_T83 l0 x5_1).f1).length c1001_1) ∧ w'.cell? (ad1002.add ((x5_1).toNat * 2)) = some (.slice A1002_0 ((rd_T83 l1 x5_1).f0).length c1002_0) ∧ w'.cell? ⟨(ad1002.add ((x5_1).toNat * 2)).block, (ad1002.add ((x5_1).toNat * 2)).off + 1, none⟩ = some (.slice A1002_1 ((rd_T83 l1 x5_1).f1).length c1002_1)) (ds := []) (bz 10 0) (by kernel_rfl) rfl rfl ⟨(kp_ HB hw1001_0 :), (kp_ HB hw1001_1 :), (kp_ HB hw1002_0 :), (kp_ HB hw1002_1 :)⟩ (fun hHeld => ?_); refine with_tabW laws_eqSeriesS.tab6 laws_eqSeriesS.bits6 (fun HT_ HW_ => ?_)
        generalize wr.drew = w11 at HB HR1001_0 HR1001_1 HR1002_0 HR1002_1 hx1001_0 hx1001_1 hx1002_0 hx1002_1 hHeld ⊢
        refine pz_ 0 17 1 ?_
        refine pz_ 1 18 3 ?_
        refine pz_ 2 19 7 ?_
        refine pz_ 4 21 23 ?_
        refine pz_ 5 22 55 ?_
        refine pz_ 6 23 119 ?_
        refine tz_ 3 20 127 ?_
        refine tz_ 7 24 255 ?_
        refine one_ (i := 8) (N := some 25) (bz 10 511) rfl rfl (one_of HT_.out (by kernel_rfl)) (by decide) (fun K hK => ?_)
        refine goes_ Try.func62 (by kernel_rfl) rfl #[.agg #[.slice A1001_0 ((rd_T83 l0 x5_1).f0).length c1001_0, .slice A1001_1 ((rd_T83 l0 x5_1).f1).length c1001_1], .agg #[.slice A1002_0 ((rd_T83 l1 x5_1).f0).length c1002_0, .slice A1002_1 ((rd_T83 l1 x5_1).f1).length c1002_1]] (by rfl) rfl rfl ag_ ?_
        with_reducible refine (laws_eqSeries.calls k1 _ _ ((rd_T83 l0 x5_1).f0) _ _ ((rd_T83 l0 x5_1).f1) _ _ ((rd_T83 l1 x5_1).f0) _ _ ((rd_T83 l1 x5_1).f1) false _ ?side1 ?side2 ?side3 ?side4 ?side5 ?side6 ?side7 ?side8 A7.out).mono ?_
        (case side1 => exact cc_ (Kd.C_below HR1001_0.out HB.out))
        (case side2 => exact HC1001_0.out)
        (case side3 => exact cc_ (Kd.C_below HR1001_1.out HB.out))
        (case side4 => exact HC1001_1.out)
        (case side5 => exact cc_ (Kd.C_below HR1002_0.out HB.out))
        (case side6 => exact HC1002_0.out)
        (case side7 => exact cc_ (Kd.C_below HR1002_1.out HB.out))
        (case side8 => exact HC1002_1.out)
        rintro e w12 ⟨rfl, hb⟩
        refine ⟨_, rfl, ?_⟩
        have n0_ := am_ (below_step bl_ hb)
        clear HB
        have HB := n0_
        clear n0_
        (try clear hb)
        (try clear hb2)
        (try clear hk)
        (try clear hi)
        refine hK.out _ _ ⟨(kp_ HB hw1001_0 :), (kp_ HB hw1001_1 :), (kp_ HB hw1002_0 :), (kp_ HB hw1002_1 :)⟩ (fun hHeld => ?_)
        clear hK K
        refine norm_ (a' := ?_) ?_ ?_
        rotate_left
        ·show Act.put _ (some 25) _ = _
         simp only [Act.put, List.setIfInBounds_toArray, List.set_cons_zero, List.set_cons_succ, i64_w, i32_w]
         rfl
        refine pz_ 9 26 1023 ?_
        refine done_ (done_of HT_.out (by kernel_rfl)) ?_
        try go_wp2
        go_ret
        exact ⟨rf_, bl_⟩
      ·rw [if_neg c6] at H
       exact absurd H (by simp)
     ·rw [if_neg c5] at H
      exact absurd H (by simp)
    ·rw [if_neg c4] at H
     have c4b0 : decide (x5_1 < (l0.length : Int)) = false := decide_eq_false c4
     clear c4
     obtain rfl := Option.some.inj H
     go_wp2
     go_ret
     exact ⟨rf_, bl_⟩
 ·rw [if_neg c3] at H
  have c3b0 : ((l0.length : Int) == (l1.length : Int)) = false := beq_eq_false_iff_ne.mpr c3
  have c3b1 : ((l0.length : Int) != (l1.length : Int)) = true := bne_iff_ne.mpr c3
  have c3b2 : (l0.length == l1.length) = false := by first | simpa using c3 | (simp at c3 ⊢; omega)
  obtain rfl := Option.some.inj H
  go_enter Try.func17, Try.ntmps17
  go_wp2
  go_ret
  exact ⟨rf_, bl_⟩

end Go.Proofs.Ytknlgignjbghkaa.Pr
