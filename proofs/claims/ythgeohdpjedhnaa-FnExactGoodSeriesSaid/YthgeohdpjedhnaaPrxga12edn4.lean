/- Functions of the given program as plain Lean functions, and that the machine's calls come to them; written by a program of this session; no condition but those that each theorem states. -/
import Derived.Test.YthgeohdpjedhnaaPrx0
import Derived.Test.YthgeohdpjedhnaaPrxg5570bn1
import Derived.Test.YthgeohdpjedhnaaPrxgc61f0n1
import Derived.Test.YthgeohdpjedhnaaPrxga12edn3
namespace Go.Proofs.Ythgeohdpjedhnaa.Pr
open Go.RowKit Go.Proofs.YthgeohdpjedhnaaW.PrintWords Go.Proofs.YthgeohdpjedhnaaW.PrintLast Go.Proofs.YthgeohdpjedhnaaW.PrintMore
attribute [local go_sem] max2_int min2_int max_two min_two max_three min_three max_four min_four   -- for this text's walks alone
set_option linter.unusedVariables false
set_option linter.unusedSimpArgs false

/-! ### impl_GoodSeries: function 44 -/
def impl_GoodSeries.l0 : Nat → List (S103) → List (S103) → Int → Int → Option (Bool)
 | 0, _, _, _, _ => none
 | k + 1, x0, x8, x9, x10 => if x10 < x9 then (if 0 ≤ x10 then (if x10 < (x8.length : Int) then ((impl_GoodLabels.f k ((rd_T103 x8 x10).f0)).bind fun t584 => (if t584 = true then ((impl_valueOf.f k ((rd_T103 x8 x10).f0) (⟨#[95, 110, 97, 109, 101]⟩ : ByteArray)).bind fun t585 => (if t585.toList = ([] : List UInt8) then (some false) else (if (((rd_T103 x8 x10).f1).length : Int) = 0 then (some false) else ((impl_GoodSamples.f k ((rd_T103 x8 x10).f1)).bind fun t586 => (if t586 = true then (if x10 > 0 then (if 0 ≤ (wrap64 (x10 - 1)) then (if (wrap64 (x10 - 1)) < (x0.length : Int) then ((impl_compare.f k ((rd_T103 x0 (wrap64 (x10 - 1))).f0) ((rd_T103 x8 x10).f0)).bind fun t588 => (if t588 ≥ 0 then (some false) else (impl_GoodSeries.l0 k x0 x8 x9 (wrap64 (x10 + 1))))) else (none)) else (none)) else (impl_GoodSeries.l0 k x0 x8 x9 (wrap64 (x10 + 1)))) else (some false)))))) else (some false))) else (none)) else (none)) else (some true)
def impl_GoodSeries.f (k : Nat) (l0 : List (S103)) : Option (Bool) := if (l0.length : Int) > 200 then (some false) else (impl_GoodSeries.l0 k l0 l0 (l0.length : Int) 0)
theorem impl_GoodSeries.mono_l : ∀ k, (∀ y0 y1 y2 y3, LeO (impl_GoodSeries.l0 k y0 y1 y2 y3) (impl_GoodSeries.l0 (k + 1) y0 y1 y2 y3))
 | 0 => fun _ _ _ _ r h => by simp [impl_GoodSeries.l0] at h
 | k + 1 => by
  have ih0 := impl_GoodSeries.mono_l k
  ·intro y0 y1 y2 y3
   unfold impl_GoodSeries.l0
   repeat' first
   | (with_reducible exact ih0 _ _ _ _)
   | (with_reducible exact impl_GoodLabels.mono _ _)
   | (with_reducible exact impl_GoodSamples.mono _ _)
   | (with_reducible exact impl_compare.mono _ _ _)
   | (with_reducible exact impl_valueOf.mono _ _ _)
   | (with_reducible exact LeO.refl _)
   | (with_reducible exact LeO.none _)
   | (with_reducible refine LeO.ite ?_ ?_)
   | (with_reducible refine LeO.bind ?_ (fun _ => ?_))
   | exact ih0 _ _ _ _
   | exact impl_GoodLabels.mono _ _
   | exact impl_GoodSamples.mono _ _
   | exact impl_compare.mono _ _ _
   | exact impl_valueOf.mono _ _ _
   | exact LeO.none _
   | refine LeO.ite ?_ ?_
   | refine LeO.bind ?_ (fun _ => ?_)
theorem impl_GoodSeries.mono : ∀ a0 k, LeO (impl_GoodSeries.f k a0) (impl_GoodSeries.f (k + 1) a0) := by
 intro a0 k
 have ih0 := impl_GoodSeries.mono_l k
 unfold impl_GoodSeries.f
 repeat' first
   | (with_reducible exact ih0 _ _ _ _)
   | (with_reducible exact impl_GoodLabels.mono _ _)
   | (with_reducible exact impl_GoodSamples.mono _ _)
   | (with_reducible exact impl_compare.mono _ _ _)
   | (with_reducible exact impl_valueOf.mono _ _ _)
   | (with_reducible exact LeO.refl _)
   | (with_reducible exact LeO.none _)
   | (with_reducible refine LeO.ite ?_ ?_)
   | (with_reducible refine LeO.bind ?_ (fun _ => ?_))
   | exact ih0 _ _ _ _
   | exact impl_GoodLabels.mono _ _
   | exact impl_GoodSamples.mono _ _
   | exact impl_compare.mono _ _ _
   | exact impl_valueOf.mono _ _ _
   | exact LeO.none _
   | refine LeO.ite ?_ ?_
   | refine LeO.bind ?_ (fun _ => ?_)
def impl_GoodSeries.T6 : Bool × List (List Nat × List Nat) := (true, [([], []), ([0], [0]), ([1], [1]), ([2], [2]), ([3, 2], [3]), ([4], [4]), ([5, 4], [4, 5]), ([6, 4, 4], [4, 6]), ([7, 4], [4, 7]), ([4, 8], [4, 8]), ([9, 7], [9]), ([10], [10]), ([11, 10], [10, 11]), ([12, 10], [10, 12]), ([13, 10], [10, 13]), ([10, 14], [10, 14]), ([15, 10], [15]), ([16], [16]), ([17, 16], [16, 17]), ([18, 16, 16], [16, 18]), ([19, 16], [16, 19]), ([16, 20], [16, 20]), ([21, 19], [21]), ([22], [22]), ([23, 22], [22, 23]), ([24, 22, 22], [22, 24]), ([25], [25]), ([25], [25]), ([27, 25], [25, 27]), ([26, 28, 25], [25, 26, 28]), ([29, 25], [25, 29]), ([30, 25], [25, 30]), ([25], [25]), ([32, 25], [25, 32]), ([31, 33, 25, 25], [25, 31, 33]), ([34, 25], [25, 34]), ([25, 35, 22], [22, 25, 35]), ([22, 36], [22, 36])])
def impl_GoodSeries.B6 : List Nat := [0, 1, 3, 7, 15, 31, 63, 127, 255, 511, 1023, 2047, 4095, 8191, 16383, 32767, 65535, 131071, 262143, 524287, 1048575, 2097151, 4194303, 8388607, 16777215, 33554431, 67108863, 67108863, 201326591, 536870911, 1073741823, 2147483647, 67108863, 4362076159, 17179869183, 34359738367, 68719476735, 137438953471]
theorem impl_GoodSeries.tab6 : rtab .any (opsOf Try.f44 6) = impl_GoodSeries.T6 := by kernel_rfl
theorem impl_GoodSeries.bits6 : waitsOk impl_GoodSeries.T6.2 impl_GoodSeries.B6 = true := by kernel_rfl
set_option maxHeartbeats 8000000 in
set_option maxRecDepth 100000 in
theorem impl_GoodSeries.calls (k : Nat) (A0 : Option Addr) (c0 : Nat) (l0 : List (S103)) (r : Bool) (w : World) (hr0 : Kd.C k103 w A0 l0.length l0) (hc0 : l0.length ≤ c0) (h : impl_GoodSeries.f k l0 = some r) :
  Calls Try.prog 44 #[.slice A0 l0.length c0] w fun e w' => e = .returned (.bool r) ∧ Below w.heap.size w w' := by
 have hu103 := Try.underlying103
 have HR0 := Aside0.mk hr0
 have HC0 := Aside0.mk hc0
 clear hr0 hc0
 have HB := Aside0.mk (Below.refl w.heap.size w)
 have H : (if (l0.length : Int) > 200 then (some false) else (impl_GoodSeries.l0 k l0 l0 (l0.length : Int) 0)) = some r := h
 clear h
 by_cases c2 : (l0.length : Int) > 200
 ·rw [if_pos c2] at H
  have c2b0 : decide (200 < (l0.length : Int)) = true := decide_eq_true c2
  have c2b1 : decide (200 < l0.length) = true := decide_eq_true (by omega)
  clear c2
  obtain rfl := Option.some.inj H
  go_enter Try.func44, Try.ntmps44
  go_wp2
  go_ret
  exact ⟨by first | rfl | (simp [errW_none, errW_some] <;> rfl) | (simp [*, errW_none, errW_some] <;> rfl) | (simp [*, Go.Proofs.Ythgeohdpjedhnaa.Gt.nil_bne]; done), bl_⟩
 ·rw [if_neg c2] at H
  have c2b0 : decide (200 < (l0.length : Int)) = false := decide_eq_false c2
  have c2b1 : decide (200 < l0.length) = false := decide_eq_false (by omega)
  clear c2
  have H' := Aside0.mk H
  clear H
  go_enter Try.func44, Try.ntmps44
  go_wp2
  go_loopg [10] k (fun kq v10 w' => ∃ (x10_1 : Int), v10 = .int .i64 x10_1 ∧ Aside0 (impl_GoodSeries.l0 kq l0 l0 (l0.length : Int) x10_1 = some r) ∧ Aside0 (kq ≤ k) ∧ Aside0 (Below w.heap.size w w'))
  case atStart => exact ⟨(0), (by first | rfl | (simp; done) | (simp [*]; done)), H', ⟨Nat.le_refl _⟩, ⟨bl_⟩⟩
  case round =>
   clear H'
   try clear c2
   try clear c2b0
   try clear c2b1
   try clear p2
   obtain ⟨x10_1, rfl, HA, HK1, HB⟩ := hrel
   cases gk with
   | zero => exact absurd HA.out (by simp [impl_GoodSeries.l0])
   | succ k1 =>
    have H := HA.out
    clear HA
    simp only [impl_GoodSeries.l0] at H
    by_cases c3 : x10_1 < (l0.length : Int)
    ·rw [if_pos c3] at H
     have c3b0 : decide (x10_1 < (l0.length : Int)) = true := decide_eq_true c3
     clear c3
     by_cases c4 : 0 ≤ x10_1
     ·rw [if_pos c4] at H
      have c4b0 : decide (0 ≤ x10_1) = true := decide_eq_true c4
      clear c4
      by_cases c5 : x10_1 < (l0.length : Int)
      ·rw [if_pos c5] at H
       have c5b0 : decide (x10_1 < (l0.length : Int)) = true := decide_eq_true c5
       clear c5
       replace H := Option.bind_eq_some_iff.mp H
       obtain ⟨t584, A60, H⟩ := H
       replace H : (if t584 = true then ((impl_valueOf.f k1 ((rd_T103 l0 x10_1).f0) (⟨#[95, 110, 97, 109, 101]⟩ : ByteArray)).bind fun t585 => (if t585.toList = ([] : List UInt8) then (some false) else (if (((rd_T103 l0 x10_1).f1).length : Int) = 0 then (some false) else ((impl_GoodSamples.f k1 ((rd_T103 l0 x10_1).f1)).bind fun t586 => (if t586 = true then (if x10_1 > 0 then (if 0 ≤ (wrap64 (x10_1 - 1)) then (if (wrap64 (x10_1 - 1)) < (l0.length : Int) then ((impl_compare.f k1 ((rd_T103 l0 (wrap64 (x10_1 - 1))).f0) ((rd_T103 l0 x10_1).f0)).bind fun t588 => (if t588 ≥ 0 then (some false) else (impl_GoodSeries.l0 k1 l0 l0 (l0.length : Int) (wrap64 (x10_1 + 1))))) else (none)) else (none)) else (impl_GoodSeries.l0 k1 l0 l0 (l0.length : Int) (wrap64 (x10_1 + 1)))) else (some false)))))) else (some false)) = some r := H
       have A6 := Aside0.mk A60
       clear A60
       by_cases c7 : t584 = true
       ·subst c7
        have H1 : ((impl_valueOf.f k1 ((rd_T103 l0 x10_1).f0) (⟨#[95, 110, 97, 109, 101]⟩ : ByteArray)).bind fun t585 => (if t585.toList = ([] : List UInt8) then (some false) else (if (((rd_T103 l0 x10_1).f1).length : Int) = 0 then (some false) else ((impl_GoodSamples.f k1 ((rd_T103 l0 x10_1).f1)).bind fun t586 => (if t586 = true then (if x10_1 > 0 then (if 0 ≤ (wrap64 (x10_1 - 1)) then (if (wrap64 (x10_1 - 1)) < (l0.length : Int) then ((impl_compare.f k1 ((rd_T103 l0 (wrap64 (x10_1 - 1))).f0) ((rd_T103 l0 x10_1).f0)).bind fun t588 => (if t588 ≥ 0 then (some false) else (impl_GoodSeries.l0 k1 l0 l0 (l0.length : Int) (wrap64 (x10_1 + 1))))) else (none)) else (none)) else (impl_GoodSeries.l0 k1 l0 l0 (l0.length : Int) (wrap64 (x10_1 + 1)))) else (some false)))))) = some r := by rw [if_pos rfl] at H; exact H
        clear H
        have H := H1
        clear H1
        replace H := Option.bind_eq_some_iff.mp H
        obtain ⟨t585, A80, H⟩ := H
        replace H : (if t585.toList = ([] : List UInt8) then (some false) else (if (((rd_T103 l0 x10_1).f1).length : Int) = 0 then (some false) else ((impl_GoodSamples.f k1 ((rd_T103 l0 x10_1).f1)).bind fun t586 => (if t586 = true then (if x10_1 > 0 then (if 0 ≤ (wrap64 (x10_1 - 1)) then (if (wrap64 (x10_1 - 1)) < (l0.length : Int) then ((impl_compare.f k1 ((rd_T103 l0 (wrap64 (x10_1 - 1))).f0) ((rd_T103 l0 x10_1).f0)).bind fun t588 => (if t588 ≥ 0 then (some false) else (impl_GoodSeries.l0 k1 l0 l0 (l0.length : Int) (wrap64 (x10_1 + 1))))) else (none)) else (none)) else (impl_GoodSeries.l0 k1 l0 l0 (l0.length : Int) (wrap64 (x10_1 + 1)))) else (some false))))) = some r := H
        have A8 := Aside0.mk A80
        clear A80
        by_cases c9 : t585.toList = ([] : List UInt8)
        ·rw [if_pos c9] at H
         have c9b0 : (t585.toList == ([] : List UInt8)) = true := beq_iff_eq.mpr c9
         have c9b1 : (t585.toList != ([] : List UInt8)) = false := bne_eq_false_iff_eq.mpr c9
         clear c9
         obtain rfl := Option.some.inj H
         have p582 : 0 ≤ (x10_1 : Int) := od_
         have q582 : x10_1 < (l0.length : Int) := od_
         obtain ⟨ad582, A582_0, c582_0, A582_1, c582_1, e582, hx582_0, hx582_1, hl582_0, hi582_0, hl582_1, hi582_1⟩ := at_T103 HR0.out x10_1 p582 q582
         cases e582
         replace hx582_0 := kp_ HB hx582_0
         replace hx582_1 := kp_ HB hx582_1
         have HR582_0 := Aside0.mk hi582_0
         have HC582_0 := Aside0.mk hl582_0
         clear hi582_0 hl582_0
         have HR582_1 := Aside0.mk hi582_1
         have HC582_1 := Aside0.mk hl582_1
         clear hi582_1 hl582_1
         replace p582 := eq_true p582
         replace q582 := eq_true q582
         try go_wp2_with (first | ((with_reducible refine gate_dst (N := 4) rfl ?_); (try (refine gate_guard (by rfl) ?_; dsimp only)); refine box_event ?hg (N := 4) ?hd (cs := #[.slice none 0 0, .slice none 0 0]) (t := 103) ?hr ?_; (case hd => rfl); (case hg => rfl); (case hr => first | (go_simp; done) | (go_simp; rfl)); intro gb583 hg w10 hbox hb; have n0_ := Aside0.mk (below_step bl_ hb); have n1_ := Aside0.mk (hbox); have n2_ := Aside0.mk ((by rw [hg]; exact (below_size bl_) : w.heap.size ≤ gb583)); have n3_ := Aside0.mk ((by rw [hg]; exact (below_size bl_) : w.heap.size ≤ gb583)); clear HB; have HB := n0_; have BK583 := n1_; have GW583 := n2_; have GE583 := n3_; clear n0_ n1_ n2_ n3_; clear hb hbox hg; have hcz11_0 : w10.cell? ⟨gb583, 0, none⟩ = some (.slice none 0 0) := (blk_cell BK583.out 0).trans rfl; have hcz11_1 : w10.cell? ⟨gb583, 1, none⟩ = some (.slice none 0 0) := (blk_cell BK583.out 1).trans rfl; have hfz11_0 := blk_frozen BK583.out 0; have hfz11_1 := blk_frozen BK583.out 1))
         have n0_ : Aside0 (((w10.setCell ⟨gb583, 0, none⟩ (.slice A582_0 ((rd_T103 l0 x10_1).f0).length c582_0)).setCell ⟨gb583, 1, none⟩ (.slice A582_1 ((rd_T103 l0 x10_1).f1).length c582_1)).heap[gb583]? = some (.cells #[.slice A582_0 ((rd_T103 l0 x10_1).f0).length c582_0, .slice A582_1 ((rd_T103 l0 x10_1).f1).length c582_1] 103 (0, 0))) := ⟨by (with_reducible repeat (first | refine blk_drewN ?_ _ | refine blk_drew ?_ | refine blk_alloc ?_ _)); refine blk_put (cs := #[.slice A582_0 ((rd_T103 l0 x10_1).f0).length c582_0, .slice none 0 0]) ?_ 1 _ rfl; (with_reducible repeat (first | refine blk_drewN ?_ _ | refine blk_drew ?_ | refine blk_alloc ?_ _)); refine blk_put (cs := #[.slice none 0 0, .slice none 0 0]) ?_ 0 _ rfl; (with_reducible repeat (first | refine blk_drewN ?_ _ | refine blk_drew ?_ | refine blk_alloc ?_ _)); exact BK583.out⟩
         have n1_ : Aside0 (Below w.heap.size w ((w10.setCell ⟨gb583, 0, none⟩ (.slice A582_0 ((rd_T103 l0 x10_1).f0).length c582_0)).setCell ⟨gb583, 1, none⟩ (.slice A582_1 ((rd_T103 l0 x10_1).f1).length c582_1))) := ⟨by repeat (first | (with_reducible first | exact HB.out | apply below_alloc | apply pw_below_drewN | apply below_drew1 | refine below_set ?_ GE583.out) | exact HB.out)⟩
         (try clear BK583)
         (try clear HB)
         generalize ((w10.setCell ⟨gb583, 0, none⟩ (.slice A582_0 ((rd_T103 l0 x10_1).f0).length c582_0)).setCell ⟨gb583, 1, none⟩ (.slice A582_1 ((rd_T103 l0 x10_1).f1).length c582_1)) = w12 at n0_ n1_ ⊢
         have BK583 := n0_
         have HB := n1_
         clear n0_ n1_
         have n0_ := Aside0.mk (blk_drew BK583.out)
         have n1_ := Aside0.mk (below_drew1 HB.out)
         clear BK583
         clear HB
         have BK583 := n0_
         have HB := n1_
         clear n0_ n1_
         refine start_ (n := 38) (S := fun w' => w'.cell? ⟨gb583, 0, none⟩ = some (.slice A582_0 ((rd_T103 l0 x10_1).f0).length c582_0) ∧ w'.cell? ⟨gb583, 1, none⟩ = some (.slice A582_1 ((rd_T103 l0 x10_1).f1).length c582_1)) (ds := []) (bz 38 0) (by kernel_rfl) rfl rfl ⟨(blk_cell BK583.out 0).trans rfl, (blk_cell BK583.out 1).trans rfl⟩ (fun hHeld => ?_); refine with_tabW impl_GoodSeries.tab6 impl_GoodSeries.bits6 (fun HT_ HW_ => ?_)
         generalize w12.drew = w13 at BK583 HB hHeld ⊢
         refine pz_ 0 15 1 ?_
         refine tz_ 1 16 3 ?_
         refine one_ (i := 2) (N := some 17) (bz 38 7) rfl rfl (one_of HT_.out (by kernel_rfl)) (by decide) (fun K hK => ?_)
         refine goes_ Try.func69 (by kernel_rfl) rfl #[.slice A582_0 ((rd_T103 l0 x10_1).f0).length c582_0] (by rfl) rfl rfl (by (try simp only [List.map_toArray, List.map_cons, List.map_nil]); first | done | rfl | (simp only [List.length_drop, List.length_take]; rfl)) ?_
         with_reducible refine (impl_GoodLabels.calls k1 _ _ ((rd_T103 l0 x10_1).f0) true _ ?side1 ?side2 A6.out).mono ?_
         (case side1 => repeat (first | exact (Kd.C_below HR582_0.out HB.out) | (with_reducible refine Kd.C_alloc ?_ _) | (with_reducible refine Kd.C_drewN ?_ _) | (with_reducible refine Kd.C_drew ?_)))
         (case side2 => exact HC582_0.out)
         rintro e w14 ⟨rfl, hb⟩
         refine ⟨_, rfl, ?_⟩
         have n0_ := Aside0.mk (blk_below (g := gb583) (o := .cells #[.slice A582_0 ((rd_T103 l0 x10_1).f0).length c582_0, .slice A582_1 ((rd_T103 l0 x10_1).f1).length c582_1] 103 (0, 0)) (by (with_reducible repeat (first | refine blk_drewN ?_ _ | refine blk_drew ?_ | refine blk_alloc ?_ _)); exact BK583.out) hb)
         have n1_ := Aside0.mk (below_step (by repeat (first | (with_reducible first | exact HB.out | apply below_alloc | apply pw_below_drewN | apply below_drew1 | refine below_set ?_ GE583.out) | exact HB.out)) hb)
         clear BK583
         clear HB
         have BK583 := n0_
         have HB := n1_
         clear n0_ n1_
         (try clear hb)
         (try clear hb2)
         (try clear hk)
         (try clear hi)
         refine hK.out _ _ ⟨(blk_cell BK583.out 0).trans rfl, (blk_cell BK583.out 1).trans rfl⟩ (fun hHeld => ?_)
         clear hK K
         refine norm_ (a' := ?_) ?_ ?_
         rotate_left
         ·show Act.put _ (some 17) _ = _
          simp only [Act.put, List.setIfInBounds_toArray, List.set_cons_zero, List.set_cons_succ, i64_w, i32_w]
          rfl
         refine pz_ 3 18 15 ?_
         refine pz_ 4 19 31 ?_
         refine pz_ 5 20 63 ?_
         refine tz_ 6 21 127 ?_
         refine one_ (i := 7) (N := some 22) (bz 38 255) rfl rfl (one_of HT_.out (by kernel_rfl)) (by decide) (fun K hK => ?_)
         refine goes_ Try.func95 (by kernel_rfl) rfl #[.slice A582_0 ((rd_T103 l0 x10_1).f0).length c582_0, .string (⟨#[95, 110, 97, 109, 101]⟩ : ByteArray)] (by rfl) rfl rfl (by (try simp only [List.map_toArray, List.map_cons, List.map_nil]); first | done | rfl | (simp only [List.length_drop, List.length_take]; rfl)) ?_
         with_reducible refine (impl_valueOf.calls k1 _ _ ((rd_T103 l0 x10_1).f0) (⟨#[95, 110, 97, 109, 101]⟩ : ByteArray) t585 _ ?side1 ?side2 A8.out).mono ?_
         (case side1 => repeat (first | exact (Kd.C_below HR582_0.out HB.out) | (with_reducible refine Kd.C_alloc ?_ _) | (with_reducible refine Kd.C_drewN ?_ _) | (with_reducible refine Kd.C_drew ?_)))
         (case side2 => exact HC582_0.out)
         rintro e w15 ⟨rfl, hb⟩
         refine ⟨_, rfl, ?_⟩
         have n0_ := Aside0.mk (blk_below (g := gb583) (o := .cells #[.slice A582_0 ((rd_T103 l0 x10_1).f0).length c582_0, .slice A582_1 ((rd_T103 l0 x10_1).f1).length c582_1] 103 (0, 0)) (by (with_reducible repeat (first | refine blk_drewN ?_ _ | refine blk_drew ?_ | refine blk_alloc ?_ _)); exact BK583.out) hb)
         have n1_ := Aside0.mk (below_step (by repeat (first | (with_reducible first | exact HB.out | apply below_alloc | apply pw_below_drewN | apply below_drew1 | refine below_set ?_ GE583.out) | exact HB.out)) hb)
         clear BK583
         clear HB
         have BK583 := n0_
         have HB := n1_
         clear n0_ n1_
         (try clear hb)
         (try clear hb2)
         (try clear hk)
         (try clear hi)
         refine hK.out _ _ ⟨(blk_cell BK583.out 0).trans rfl, (blk_cell BK583.out 1).trans rfl⟩ (fun hHeld => ?_)
         clear hK K
         refine norm_ (a' := ?_) ?_ ?_
         rotate_left
         ·show Act.put _ (some 22) _ = _
          simp only [Act.put, List.setIfInBounds_toArray, List.set_cons_zero, List.set_cons_succ, i64_w, i32_w]
          rfl
         refine pz_ 8 23 511 ?_
         refine pz_ 9 24 1023 ?_
         refine pz_ 10 25 2047 ?_
         refine uz_ 11 26 4095 ?_
         refine uz_ 12 27 8191 ?_
         refine uz_ 13 28 16383 ?_
         refine uz_ 14 29 32767 ?_
         refine pz_ 15 30 65535 ?_
         refine pz_ 16 31 131071 ?_
         refine uz_ 17 32 262143 ?_
         refine uz_ 18 33 524287 ?_
         refine uz_ 19 34 1048575 ?_
         refine uz_ 20 35 2097151 ?_
         refine pz_ 21 36 4194303 ?_
         refine pz_ 22 37 8388607 ?_
         refine uz_ 23 38 16777215 ?_
         refine uz_ 24 39 33554431 ?_
         refine uz_ 25 40 67108863 ?_
         refine uz_ 26 41 134217727 ?_
         refine uz_ 27 42 268435455 ?_
         refine uz_ 28 43 536870911 ?_
         refine uz_ 29 44 1073741823 ?_
         refine uz_ 30 45 2147483647 ?_
         refine uz_ 31 46 4294967295 ?_
         refine uz_ 32 47 8589934591 ?_
         refine uz_ 33 48 17179869183 ?_
         refine uz_ 34 49 34359738367 ?_
         refine uz_ 35 50 68719476735 ?_
         refine uz_ 36 51 137438953471 ?_
         refine pz_ 37 52 274877906943 ?_
         refine done_ (done_of HT_.out (by kernel_rfl)) ?_
         try go_wp2
         go_ret
         exact ⟨by first | rfl | (simp [errW_none, errW_some] <;> rfl) | (simp [*, errW_none, errW_some] <;> rfl) | (simp [*, Go.Proofs.Ythgeohdpjedhnaa.Gt.nil_bne]; done), by repeat (first | (with_reducible first | exact HB.out | apply below_alloc | apply pw_below_drewN | apply below_drew1 | refine below_set ?_ GE583.out) | exact HB.out)⟩
        ·rw [if_neg c9] at H
         have c9b0 : (t585.toList == ([] : List UInt8)) = false := beq_eq_false_iff_ne.mpr c9
         have c9b1 : (t585.toList != ([] : List UInt8)) = true := bne_iff_ne.mpr c9
         by_cases c16 : (((rd_T103 l0 x10_1).f1).length : Int) = 0
         ·rw [if_pos c16] at H
          have c16b0 : ((((rd_T103 l0 x10_1).f1).length : Int) == 0) = true := beq_iff_eq.mpr c16
          have c16b1 : ((((rd_T103 l0 x10_1).f1).length : Int) != 0) = false := bne_eq_false_iff_eq.mpr c16
          clear c16
          obtain rfl := Option.some.inj H
          have p582 : 0 ≤ (x10_1 : Int) := od_
          have q582 : x10_1 < (l0.length : Int) := od_
          obtain ⟨ad582, A582_0, c582_0, A582_1, c582_1, e582, hx582_0, hx582_1, hl582_0, hi582_0, hl582_1, hi582_1⟩ := at_T103 HR0.out x10_1 p582 q582
          cases e582
          replace hx582_0 := kp_ HB hx582_0
          replace hx582_1 := kp_ HB hx582_1
          have HR582_0 := Aside0.mk hi582_0
          have HC582_0 := Aside0.mk hl582_0
          clear hi582_0 hl582_0
          have HR582_1 := Aside0.mk hi582_1
          have HC582_1 := Aside0.mk hl582_1
          clear hi582_1 hl582_1
          replace p582 := eq_true p582
          replace q582 := eq_true q582
          try go_wp2_with (first | ((with_reducible refine gate_dst (N := 4) rfl ?_); (try (refine gate_guard (by rfl) ?_; dsimp only)); refine box_event ?hg (N := 4) ?hd (cs := #[.slice none 0 0, .slice none 0 0]) (t := 103) ?hr ?_; (case hd => rfl); (case hg => rfl); (case hr => first | (go_simp; done) | (go_simp; rfl)); intro gb583 hg w17 hbox hb; have n0_ := Aside0.mk (below_step bl_ hb); have n1_ := Aside0.mk (hbox); have n2_ := Aside0.mk ((by rw [hg]; exact (below_size bl_) : w.heap.size ≤ gb583)); have n3_ := Aside0.mk ((by rw [hg]; exact (below_size bl_) : w.heap.size ≤ gb583)); clear HB; have HB := n0_; have BK583 := n1_; have GW583 := n2_; have GE583 := n3_; clear n0_ n1_ n2_ n3_; clear hb hbox hg; have hcz18_0 : w17.cell? ⟨gb583, 0, none⟩ = some (.slice none 0 0) := (blk_cell BK583.out 0).trans rfl; have hcz18_1 : w17.cell? ⟨gb583, 1, none⟩ = some (.slice none 0 0) := (blk_cell BK583.out 1).trans rfl; have hfz18_0 := blk_frozen BK583.out 0; have hfz18_1 := blk_frozen BK583.out 1))
          have n0_ : Aside0 (((w17.setCell ⟨gb583, 0, none⟩ (.slice A582_0 ((rd_T103 l0 x10_1).f0).length c582_0)).setCell ⟨gb583, 1, none⟩ (.slice A582_1 ((rd_T103 l0 x10_1).f1).length c582_1)).heap[gb583]? = some (.cells #[.slice A582_0 ((rd_T103 l0 x10_1).f0).length c582_0, .slice A582_1 ((rd_T103 l0 x10_1).f1).length c582_1] 103 (0, 0))) := ⟨by (with_reducible repeat (first | refine blk_drewN ?_ _ | refine blk_drew ?_ | refine blk_alloc ?_ _)); refine blk_put (cs := #[.slice A582_0 ((rd_T103 l0 x10_1).f0).length c582_0, .slice none 0 0]) ?_ 1 _ rfl; (with_reducible repeat (first | refine blk_drewN ?_ _ | refine blk_drew ?_ | refine blk_alloc ?_ _)); refine blk_put (cs := #[.slice none 0 0, .slice none 0 0]) ?_ 0 _ rfl; (with_reducible repeat (first | refine blk_drewN ?_ _ | refine blk_drew ?_ | refine blk_alloc ?_ _)); exact BK583.out⟩
          have n1_ : Aside0 (Below w.heap.size w ((w17.setCell ⟨gb583, 0, none⟩ (.slice A582_0 ((rd_T103 l0 x10_1).f0).length c582_0)).setCell ⟨gb583, 1, none⟩ (.slice A582_1 ((rd_T103 l0 x10_1).f1).length c582_1))) := ⟨by repeat (first | (with_reducible first | exact HB.out | apply below_alloc | apply pw_below_drewN | apply below_drew1 | refine below_set ?_ GE583.out) | exact HB.out)⟩
          (try clear BK583)
          (try clear HB)
          generalize ((w17.setCell ⟨gb583, 0, none⟩ (.slice A582_0 ((rd_T103 l0 x10_1).f0).length c582_0)).setCell ⟨gb583, 1, none⟩ (.slice A582_1 ((rd_T103 l0 x10_1).f1).length c582_1)) = w19 at n0_ n1_ ⊢
          have BK583 := n0_
          have HB := n1_
          clear n0_ n1_
          have n0_ := Aside0.mk (blk_drew BK583.out)
          have n1_ := Aside0.mk (below_drew1 HB.out)
          clear BK583
          clear HB
          have BK583 := n0_
          have HB := n1_
          clear n0_ n1_
          refine start_ (n := 38) (S := fun w' => w'.cell? ⟨gb583, 0, none⟩ = some (.slice A582_0 ((rd_T103 l0 x10_1).f0).length c582_0) ∧ w'.cell? ⟨gb583, 1, none⟩ = some (.slice A582_1 ((rd_T103 l0 x10_1).f1).length c582_1)) (ds := []) (bz 38 0) (by kernel_rfl) rfl rfl ⟨(blk_cell BK583.out 0).trans rfl, (blk_cell BK583.out 1).trans rfl⟩ (fun hHeld => ?_); refine with_tabW impl_GoodSeries.tab6 impl_GoodSeries.bits6 (fun HT_ HW_ => ?_)
          generalize w19.drew = w20 at BK583 HB hHeld ⊢
          refine pz_ 0 15 1 ?_
          refine tz_ 1 16 3 ?_
          refine one_ (i := 2) (N := some 17) (bz 38 7) rfl rfl (one_of HT_.out (by kernel_rfl)) (by decide) (fun K hK => ?_)
          refine goes_ Try.func69 (by kernel_rfl) rfl #[.slice A582_0 ((rd_T103 l0 x10_1).f0).length c582_0] (by rfl) rfl rfl (by (try simp only [List.map_toArray, List.map_cons, List.map_nil]); first | done | rfl | (simp only [List.length_drop, List.length_take]; rfl)) ?_
          with_reducible refine (impl_GoodLabels.calls k1 _ _ ((rd_T103 l0 x10_1).f0) true _ ?side1 ?side2 A6.out).mono ?_
          (case side1 => repeat (first | exact (Kd.C_below HR582_0.out HB.out) | (with_reducible refine Kd.C_alloc ?_ _) | (with_reducible refine Kd.C_drewN ?_ _) | (with_reducible refine Kd.C_drew ?_)))
          (case side2 => exact HC582_0.out)
          rintro e w21 ⟨rfl, hb⟩
          refine ⟨_, rfl, ?_⟩
          have n0_ := Aside0.mk (blk_below (g := gb583) (o := .cells #[.slice A582_0 ((rd_T103 l0 x10_1).f0).length c582_0, .slice A582_1 ((rd_T103 l0 x10_1).f1).length c582_1] 103 (0, 0)) (by (with_reducible repeat (first | refine blk_drewN ?_ _ | refine blk_drew ?_ | refine blk_alloc ?_ _)); exact BK583.out) hb)
          have n1_ := Aside0.mk (below_step (by repeat (first | (with_reducible first | exact HB.out | apply below_alloc | apply pw_below_drewN | apply below_drew1 | refine below_set ?_ GE583.out) | exact HB.out)) hb)
          clear BK583
          clear HB
          have BK583 := n0_
          have HB := n1_
          clear n0_ n1_
          (try clear hb)
          (try clear hb2)
          (try clear hk)
          (try clear hi)
          refine hK.out _ _ ⟨(blk_cell BK583.out 0).trans rfl, (blk_cell BK583.out 1).trans rfl⟩ (fun hHeld => ?_)
          clear hK K
          refine norm_ (a' := ?_) ?_ ?_
          rotate_left
          ·show Act.put _ (some 17) _ = _
           simp only [Act.put, List.setIfInBounds_toArray, List.set_cons_zero, List.set_cons_succ, i64_w, i32_w]
           rfl
          refine pz_ 3 18 15 ?_
          refine pz_ 4 19 31 ?_
          refine pz_ 5 20 63 ?_
          refine tz_ 6 21 127 ?_
          refine one_ (i := 7) (N := some 22) (bz 38 255) rfl rfl (one_of HT_.out (by kernel_rfl)) (by decide) (fun K hK => ?_)
          refine goes_ Try.func95 (by kernel_rfl) rfl #[.slice A582_0 ((rd_T103 l0 x10_1).f0).length c582_0, .string (⟨#[95, 110, 97, 109, 101]⟩ : ByteArray)] (by rfl) rfl rfl (by (try simp only [List.map_toArray, List.map_cons, List.map_nil]); first | done | rfl | (simp only [List.length_drop, List.length_take]; rfl)) ?_
          with_reducible refine (impl_valueOf.calls k1 _ _ ((rd_T103 l0 x10_1).f0) (⟨#[95, 110, 97, 109, 101]⟩ : ByteArray) t585 _ ?side1 ?side2 A8.out).mono ?_
          (case side1 => repeat (first | exact (Kd.C_below HR582_0.out HB.out) | (with_reducible refine Kd.C_alloc ?_ _) | (with_reducible refine Kd.C_drewN ?_ _) | (with_reducible refine Kd.C_drew ?_)))
          (case side2 => exact HC582_0.out)
          rintro e w22 ⟨rfl, hb⟩
          refine ⟨_, rfl, ?_⟩
          have n0_ := Aside0.mk (blk_below (g := gb583) (o := .cells #[.slice A582_0 ((rd_T103 l0 x10_1).f0).length c582_0, .slice A582_1 ((rd_T103 l0 x10_1).f1).length c582_1] 103 (0, 0)) (by (with_reducible repeat (first | refine blk_drewN ?_ _ | refine blk_drew ?_ | refine blk_alloc ?_ _)); exact BK583.out) hb)
          have n1_ := Aside0.mk (below_step (by repeat (first | (with_reducible first | exact HB.out | apply below_alloc | apply pw_below_drewN | apply below_drew1 | refine below_set ?_ GE583.out) | exact HB.out)) hb)
          clear BK583
          clear HB
          have BK583 := n0_
          have HB := n1_
          clear n0_ n1_
          (try clear hb)
          (try clear hb2)
          (try clear hk)
          (try clear hi)
          refine hK.out _ _ ⟨(blk_cell BK583.out 0).trans rfl, (blk_cell BK583.out 1).trans rfl⟩ (fun hHeld => ?_)
          clear hK K
          refine norm_ (a' := ?_) ?_ ?_
          rotate_left
          ·show Act.put _ (some 22) _ = _
           simp only [Act.put, List.setIfInBounds_toArray, List.set_cons_zero, List.set_cons_succ, i64_w, i32_w]
           rfl
          refine pz_ 8 23 511 ?_
          refine pz_ 9 24 1023 ?_
          refine pz_ 10 25 2047 ?_
          refine pz_ 11 26 4095 ?_
          refine tz_ 12 27 8191 ?_
          refine pz_ 13 28 16383 ?_
          refine pz_ 14 29 32767 ?_
          refine pz_ 15 30 65535 ?_
          refine pz_ 16 31 131071 ?_
          refine uz_ 17 32 262143 ?_
          refine uz_ 18 33 524287 ?_
          refine uz_ 19 34 1048575 ?_
          refine uz_ 20 35 2097151 ?_
          refine pz_ 21 36 4194303 ?_
          refine pz_ 22 37 8388607 ?_
          refine uz_ 23 38 16777215 ?_
          refine uz_ 24 39 33554431 ?_
          refine uz_ 25 40 67108863 ?_
          refine uz_ 26 41 134217727 ?_
          refine uz_ 27 42 268435455 ?_
          refine uz_ 28 43 536870911 ?_
          refine uz_ 29 44 1073741823 ?_
          refine uz_ 30 45 2147483647 ?_
          refine uz_ 31 46 4294967295 ?_
          refine uz_ 32 47 8589934591 ?_
          refine uz_ 33 48 17179869183 ?_
          refine uz_ 34 49 34359738367 ?_
          refine uz_ 35 50 68719476735 ?_
          refine uz_ 36 51 137438953471 ?_
          refine pz_ 37 52 274877906943 ?_
          refine done_ (done_of HT_.out (by kernel_rfl)) ?_
          try go_wp2
          go_ret
          exact ⟨by first | rfl | (simp [errW_none, errW_some] <;> rfl) | (simp [*, errW_none, errW_some] <;> rfl) | (simp [*, Go.Proofs.Ythgeohdpjedhnaa.Gt.nil_bne]; done), by repeat (first | (with_reducible first | exact HB.out | apply below_alloc | apply pw_below_drewN | apply below_drew1 | refine below_set ?_ GE583.out) | exact HB.out)⟩
         ·rw [if_neg c16] at H
          have c16b0 : ((((rd_T103 l0 x10_1).f1).length : Int) == 0) = false := beq_eq_false_iff_ne.mpr c16
          have c16b1 : ((((rd_T103 l0 x10_1).f1).length : Int) != 0) = true := bne_iff_ne.mpr c16
          have c16b2 : ¬ (((rd_T103 l0 x10_1).f1) = []) := fun h_ => c16 (by rw [h_]; rfl)
          replace H := Option.bind_eq_some_iff.mp H
          obtain ⟨t586, A230, H⟩ := H
          replace H : (if t586 = true then (if x10_1 > 0 then (if 0 ≤ (wrap64 (x10_1 - 1)) then (if (wrap64 (x10_1 - 1)) < (l0.length : Int) then ((impl_compare.f k1 ((rd_T103 l0 (wrap64 (x10_1 - 1))).f0) ((rd_T103 l0 x10_1).f0)).bind fun t588 => (if t588 ≥ 0 then (some false) else (impl_GoodSeries.l0 k1 l0 l0 (l0.length : Int) (wrap64 (x10_1 + 1))))) else (none)) else (none)) else (impl_GoodSeries.l0 k1 l0 l0 (l0.length : Int) (wrap64 (x10_1 + 1)))) else (some false)) = some r := H
          have A23 := Aside0.mk A230
          clear A230
          by_cases c24 : t586 = true
          ·subst c24
           have H1 : (if x10_1 > 0 then (if 0 ≤ (wrap64 (x10_1 - 1)) then (if (wrap64 (x10_1 - 1)) < (l0.length : Int) then ((impl_compare.f k1 ((rd_T103 l0 (wrap64 (x10_1 - 1))).f0) ((rd_T103 l0 x10_1).f0)).bind fun t588 => (if t588 ≥ 0 then (some false) else (impl_GoodSeries.l0 k1 l0 l0 (l0.length : Int) (wrap64 (x10_1 + 1))))) else (none)) else (none)) else (impl_GoodSeries.l0 k1 l0 l0 (l0.length : Int) (wrap64 (x10_1 + 1)))) = some r := by rw [if_pos rfl] at H; exact H
           clear H
           have H := H1
           clear H1
           by_cases c25 : x10_1 > 0
           ·rw [if_pos c25] at H
            have c25b0 : decide (0 < x10_1) = true := decide_eq_true c25
            clear c25
            obtain ⟨ji26, hji26⟩ : ∃ j_ : Int, (wrap64 (x10_1 - 1)) = j_ := ⟨_, rfl⟩
            replace H : (if 0 ≤ (ji26) then (if (ji26) < (l0.length : Int) then ((impl_compare.f k1 ((rd_T103 l0 (ji26)).f0) ((rd_T103 l0 x10_1).f0)).bind fun t588 => (if t588 ≥ 0 then (some false) else (impl_GoodSeries.l0 k1 l0 l0 (l0.length : Int) (wrap64 (x10_1 + 1))))) else (none)) else (none)) = some r := by first | (rw [hji26] at H; exact H) | (simp only [hji26] at H ⊢; exact H)
            (try rw [hji26] at A6)
            (try rw [hji26] at A8)
            (try rw [hji26] at A23)
            have hji26w : (IntKind.i64.wrap (x10_1 - 1)) = ji26 := (i64_w _).trans hji26
            by_cases c27 : 0 ≤ (ji26)
            ·rw [if_pos c27] at H
             have c27b0 : decide (0 ≤ (ji26)) = true := decide_eq_true c27
             clear c27
             by_cases c28 : (ji26) < (l0.length : Int)
             ·rw [if_pos c28] at H
              have c28b0 : decide ((ji26) < (l0.length : Int)) = true := decide_eq_true c28
              clear c28
              replace H := Option.bind_eq_some_iff.mp H
              obtain ⟨t588, A290, H⟩ := H
              replace H : (if t588 ≥ 0 then (some false) else (impl_GoodSeries.l0 k1 l0 l0 (l0.length : Int) (wrap64 (x10_1 + 1)))) = some r := H
              have A29 := Aside0.mk A290
              clear A290
              by_cases c30 : t588 ≥ 0
              ·rw [if_pos c30] at H
               have c30b0 : decide (0 ≤ t588) = true := decide_eq_true c30
               clear c30
               obtain rfl := Option.some.inj H
               have p582 : 0 ≤ (x10_1 : Int) := od_
               have q582 : x10_1 < (l0.length : Int) := od_
               obtain ⟨ad582, A582_0, c582_0, A582_1, c582_1, e582, hx582_0, hx582_1, hl582_0, hi582_0, hl582_1, hi582_1⟩ := at_T103 HR0.out x10_1 p582 q582
               cases e582
               replace hx582_0 := kp_ HB hx582_0
               replace hx582_1 := kp_ HB hx582_1
               have HR582_0 := Aside0.mk hi582_0
               have HC582_0 := Aside0.mk hl582_0
               clear hi582_0 hl582_0
               have HR582_1 := Aside0.mk hi582_1
               have HC582_1 := Aside0.mk hl582_1
               clear hi582_1 hl582_1
               replace p582 := eq_true p582
               replace q582 := eq_true q582
               try go_wp2_with (first | ((with_reducible refine gate_dst (N := 4) rfl ?_); (try (refine gate_guard (by rfl) ?_; dsimp only)); refine box_event ?hg (N := 4) ?hd (cs := #[.slice none 0 0, .slice none 0 0]) (t := 103) ?hr ?_; (case hd => rfl); (case hg => rfl); (case hr => first | (go_simp; done) | (go_simp; rfl)); intro gb583 hg w31 hbox hb; have n0_ := Aside0.mk (below_step bl_ hb); have n1_ := Aside0.mk (hbox); have n2_ := Aside0.mk ((by rw [hg]; exact (below_size bl_) : w.heap.size ≤ gb583)); have n3_ := Aside0.mk ((by rw [hg]; exact (below_size bl_) : w.heap.size ≤ gb583)); clear HB; have HB := n0_; have BK583 := n1_; have GW583 := n2_; have GE583 := n3_; clear n0_ n1_ n2_ n3_; clear hb hbox hg; have hcz32_0 : w31.cell? ⟨gb583, 0, none⟩ = some (.slice none 0 0) := (blk_cell BK583.out 0).trans rfl; have hcz32_1 : w31.cell? ⟨gb583, 1, none⟩ = some (.slice none 0 0) := (blk_cell BK583.out 1).trans rfl; have hfz32_0 := blk_frozen BK583.out 0; have hfz32_1 := blk_frozen BK583.out 1))
               have n0_ : Aside0 (((w31.setCell ⟨gb583, 0, none⟩ (.slice A582_0 ((rd_T103 l0 x10_1).f0).length c582_0)).setCell ⟨gb583, 1, none⟩ (.slice A582_1 ((rd_T103 l0 x10_1).f1).length c582_1)).heap[gb583]? = some (.cells #[.slice A582_0 ((rd_T103 l0 x10_1).f0).length c582_0, .slice A582_1 ((rd_T103 l0 x10_1).f1).length c582_1] 103 (0, 0))) := ⟨by (with_reducible repeat (first | refine blk_drewN ?_ _ | refine blk_drew ?_ | refine blk_alloc ?_ _)); refine blk_put (cs := #[.slice A582_0 ((rd_T103 l0 x10_1).f0).length c582_0, .slice none 0 0]) ?_ 1 _ rfl; (with_reducible repeat (first | refine blk_drewN ?_ _ | refine blk_drew ?_ | refine blk_alloc ?_ _)); refine blk_put (cs := #[.slice none 0 0, .slice none 0 0]) ?_ 0 _ rfl; (with_reducible repeat (first | refine blk_drewN ?_ _ | refine blk_drew ?_ | refine blk_alloc ?_ _)); exact BK583.out⟩
               have n1_ : Aside0 (Below w.heap.size w ((w31.setCell ⟨gb583, 0, none⟩ (.slice A582_0 ((rd_T103 l0 x10_1).f0).length c582_0)).setCell ⟨gb583, 1, none⟩ (.slice A582_1 ((rd_T103 l0 x10_1).f1).length c582_1))) := ⟨by repeat (first | (with_reducible first | exact HB.out | apply below_alloc | apply pw_below_drewN | apply below_drew1 | refine below_set ?_ GE583.out) | exact HB.out)⟩
               (try clear BK583)
               (try clear HB)
               generalize ((w31.setCell ⟨gb583, 0, none⟩ (.slice A582_0 ((rd_T103 l0 x10_1).f0).length c582_0)).setCell ⟨gb583, 1, none⟩ (.slice A582_1 ((rd_T103 l0 x10_1).f1).length c582_1)) = w33 at n0_ n1_ ⊢
               have BK583 := n0_
               have HB := n1_
               clear n0_ n1_
               have n0_ := Aside0.mk (blk_drew BK583.out)
               have n1_ := Aside0.mk (below_drew1 HB.out)
               clear BK583
               clear HB
               have BK583 := n0_
               have HB := n1_
               clear n0_ n1_
               have p587 : 0 ≤ ((ji26) : Int) := od_
               have q587 : (ji26) < (l0.length : Int) := od_
               obtain ⟨ad587, A587_0, c587_0, A587_1, c587_1, e587, hx587_0, hx587_1, hl587_0, hi587_0, hl587_1, hi587_1⟩ := at_T103 HR0.out (ji26) p587 q587
               have hw587_1 := hx587_1
               have hw587_0 := hx587_0
               obtain rfl : ad582 = ad587 := (by injection e587)
               replace hx587_0 := kp_ HB hx587_0
               replace hx587_1 := kp_ HB hx587_1
               have HR587_0 := Aside0.mk hi587_0
               have HC587_0 := Aside0.mk hl587_0
               clear hi587_0 hl587_0
               have HR587_1 := Aside0.mk hi587_1
               have HC587_1 := Aside0.mk hl587_1
               clear hi587_1 hl587_1
               replace p587 := eq_true p587
               replace q587 := eq_true q587
               refine start_ (n := 38) (S := fun w' => w'.cell? ⟨gb583, 0, none⟩ = some (.slice A582_0 ((rd_T103 l0 x10_1).f0).length c582_0) ∧ w'.cell? ⟨gb583, 1, none⟩ = some (.slice A582_1 ((rd_T103 l0 x10_1).f1).length c582_1) ∧ w'.cell? (ad582.add (((ji26)).toNat * 2)) = some (.slice A587_0 ((rd_T103 l0 (ji26)).f0).length c587_0) ∧ w'.cell? ⟨(ad582.add (((ji26)).toNat * 2)).block, (ad582.add (((ji26)).toNat * 2)).off + 1, none⟩ = some (.slice A587_1 ((rd_T103 l0 (ji26)).f1).length c587_1)) (ds := []) (bz 38 0) (by kernel_rfl) rfl rfl ⟨(blk_cell BK583.out 0).trans rfl, (blk_cell BK583.out 1).trans rfl, (kp_ HB hw587_0 :), (kp_ HB hw587_1 :)⟩ (fun hHeld => ?_); refine with_tabW impl_GoodSeries.tab6 impl_GoodSeries.bits6 (fun HT_ HW_ => ?_)
               generalize w33.drew = w34 at BK583 HB HR587_0 HR587_1 hx587_0 hx587_1 hHeld ⊢
               refine pz_ 0 15 1 ?_
               refine tz_ 1 16 3 ?_
               refine one_ (i := 2) (N := some 17) (bz 38 7) rfl rfl (one_of HT_.out (by kernel_rfl)) (by decide) (fun K hK => ?_)
               refine goes_ Try.func69 (by kernel_rfl) rfl #[.slice A582_0 ((rd_T103 l0 x10_1).f0).length c582_0] (by rfl) rfl rfl (by (try simp only [List.map_toArray, List.map_cons, List.map_nil]); first | done | rfl | (simp only [List.length_drop, List.length_take]; rfl)) ?_
               with_reducible refine (impl_GoodLabels.calls k1 _ _ ((rd_T103 l0 x10_1).f0) true _ ?side1 ?side2 A6.out).mono ?_
               (case side1 => repeat (first | exact (Kd.C_below HR582_0.out HB.out) | (with_reducible refine Kd.C_alloc ?_ _) | (with_reducible refine Kd.C_drewN ?_ _) | (with_reducible refine Kd.C_drew ?_)))
               (case side2 => exact HC582_0.out)
               rintro e w35 ⟨rfl, hb⟩
               refine ⟨_, rfl, ?_⟩
               have n0_ := Aside0.mk (blk_below (g := gb583) (o := .cells #[.slice A582_0 ((rd_T103 l0 x10_1).f0).length c582_0, .slice A582_1 ((rd_T103 l0 x10_1).f1).length c582_1] 103 (0, 0)) (by (with_reducible repeat (first | refine blk_drewN ?_ _ | refine blk_drew ?_ | refine blk_alloc ?_ _)); exact BK583.out) hb)
               have n1_ := Aside0.mk (below_step (by repeat (first | (with_reducible first | exact HB.out | apply below_alloc | apply pw_below_drewN | apply below_drew1 | refine below_set ?_ GE583.out) | exact HB.out)) hb)
               clear BK583
               clear HB
               have BK583 := n0_
               have HB := n1_
               clear n0_ n1_
               (try clear hb)
               (try clear hb2)
               (try clear hk)
               (try clear hi)
               refine hK.out _ _ ⟨(blk_cell BK583.out 0).trans rfl, (blk_cell BK583.out 1).trans rfl, (kp_ HB hw587_0 :), (kp_ HB hw587_1 :)⟩ (fun hHeld => ?_)
               clear hK K
               refine norm_ (a' := ?_) ?_ ?_
               rotate_left
               ·show Act.put _ (some 17) _ = _
                simp only [Act.put, List.setIfInBounds_toArray, List.set_cons_zero, List.set_cons_succ, i64_w, i32_w]
                rfl
               refine pz_ 3 18 15 ?_
               refine pz_ 4 19 31 ?_
               refine pz_ 5 20 63 ?_
               refine tz_ 6 21 127 ?_
               refine one_ (i := 7) (N := some 22) (bz 38 255) rfl rfl (one_of HT_.out (by kernel_rfl)) (by decide) (fun K hK => ?_)
               refine goes_ Try.func95 (by kernel_rfl) rfl #[.slice A582_0 ((rd_T103 l0 x10_1).f0).length c582_0, .string (⟨#[95, 110, 97, 109, 101]⟩ : ByteArray)] (by rfl) rfl rfl (by (try simp only [List.map_toArray, List.map_cons, List.map_nil]); first | done | rfl | (simp only [List.length_drop, List.length_take]; rfl)) ?_
               with_reducible refine (impl_valueOf.calls k1 _ _ ((rd_T103 l0 x10_1).f0) (⟨#[95, 110, 97, 109, 101]⟩ : ByteArray) t585 _ ?side1 ?side2 A8.out).mono ?_
               (case side1 => repeat (first | exact (Kd.C_below HR582_0.out HB.out) | (with_reducible refine Kd.C_alloc ?_ _) | (with_reducible refine Kd.C_drewN ?_ _) | (with_reducible refine Kd.C_drew ?_)))
               (case side2 => exact HC582_0.out)
               rintro e w36 ⟨rfl, hb⟩
               refine ⟨_, rfl, ?_⟩
               have n0_ := Aside0.mk (blk_below (g := gb583) (o := .cells #[.slice A582_0 ((rd_T103 l0 x10_1).f0).length c582_0, .slice A582_1 ((rd_T103 l0 x10_1).f1).length c582_1] 103 (0, 0)) (by (with_reducible repeat (first | refine blk_drewN ?_ _ | refine blk_drew ?_ | refine blk_alloc ?_ _)); exact BK583.out) hb)
               have n1_ := Aside0.mk (below_step (by repeat (first | (with_reducible first | exact HB.out | apply below_alloc | apply pw_below_drewN | apply below_drew1 | refine below_set ?_ GE583.out) | exact HB.out)) hb)
               clear BK583
               clear HB
               have BK583 := n0_
               have HB := n1_
               clear n0_ n1_
               (try clear hb)
               (try clear hb2)
               (try clear hk)
               (try clear hi)
               refine hK.out _ _ ⟨(blk_cell BK583.out 0).trans rfl, (blk_cell BK583.out 1).trans rfl, (kp_ HB hw587_0 :), (kp_ HB hw587_1 :)⟩ (fun hHeld => ?_)
               clear hK K
               refine norm_ (a' := ?_) ?_ ?_
               rotate_left
               ·show Act.put _ (some 22) _ = _
                simp only [Act.put, List.setIfInBounds_toArray, List.set_cons_zero, List.set_cons_succ, i64_w, i32_w]
                rfl
               refine pz_ 8 23 511 ?_
               refine pz_ 9 24 1023 ?_
               refine pz_ 10 25 2047 ?_
               refine pz_ 11 26 4095 ?_
               refine tz_ 12 27 8191 ?_
               refine pz_ 13 28 16383 ?_
               refine pz_ 14 29 32767 ?_
               refine pz_ 15 30 65535 ?_
               refine pz_ 16 31 131071 ?_
               refine pz_ 17 32 262143 ?_
               refine tz_ 18 33 524287 ?_
               refine one_ (i := 19) (N := some 34) (bz 38 1048575) rfl rfl (one_of HT_.out (by kernel_rfl)) (by decide) (fun K hK => ?_)
               refine goes_ Try.func96 (by kernel_rfl) rfl #[.slice A582_1 ((rd_T103 l0 x10_1).f1).length c582_1] (by rfl) rfl rfl (by (try simp only [List.map_toArray, List.map_cons, List.map_nil]); first | done | rfl | (simp only [List.length_drop, List.length_take]; rfl)) ?_
               with_reducible refine (impl_GoodSamples.calls k1 _ _ ((rd_T103 l0 x10_1).f1) true _ ?side1 ?side2 A23.out).mono ?_
               (case side1 => repeat (first | exact (Kd.C_below HR582_1.out HB.out) | (with_reducible refine Kd.C_alloc ?_ _) | (with_reducible refine Kd.C_drewN ?_ _) | (with_reducible refine Kd.C_drew ?_)))
               (case side2 => exact HC582_1.out)
               rintro e w37 ⟨rfl, hb⟩
               refine ⟨_, rfl, ?_⟩
               have n0_ := Aside0.mk (blk_below (g := gb583) (o := .cells #[.slice A582_0 ((rd_T103 l0 x10_1).f0).length c582_0, .slice A582_1 ((rd_T103 l0 x10_1).f1).length c582_1] 103 (0, 0)) (by (with_reducible repeat (first | refine blk_drewN ?_ _ | refine blk_drew ?_ | refine blk_alloc ?_ _)); exact BK583.out) hb)
               have n1_ := Aside0.mk (below_step (by repeat (first | (with_reducible first | exact HB.out | apply below_alloc | apply pw_below_drewN | apply below_drew1 | refine below_set ?_ GE583.out) | exact HB.out)) hb)
               clear BK583
               clear HB
               have BK583 := n0_
               have HB := n1_
               clear n0_ n1_
               (try clear hb)
               (try clear hb2)
               (try clear hk)
               (try clear hi)
               refine hK.out _ _ ⟨(blk_cell BK583.out 0).trans rfl, (blk_cell BK583.out 1).trans rfl, (kp_ HB hw587_0 :), (kp_ HB hw587_1 :)⟩ (fun hHeld => ?_)
               clear hK K
               refine norm_ (a' := ?_) ?_ ?_
               rotate_left
               ·show Act.put _ (some 34) _ = _
                simp only [Act.put, List.setIfInBounds_toArray, List.set_cons_zero, List.set_cons_succ, i64_w, i32_w]
                rfl
               refine pz_ 20 35 2097151 ?_
               refine pz_ 21 36 4194303 ?_
               refine pz_ 22 37 8388607 ?_
               refine pz_ 23 38 16777215 ?_
               refine pz_ 24 39 33554431 ?_
               refine pz_ 25 40 67108863 ?_
               refine pz_ 26 41 134217727 ?_
               refine pz_ 27 42 268435455 ?_
               refine pz_ 28 43 536870911 ?_
               refine pz_ 29 44 1073741823 ?_
               refine pz_ 30 45 2147483647 ?_
               refine pz_ 32 47 6442450943 ?_
               refine tz_ 31 46 8589934591 ?_
               refine tz_ 33 48 17179869183 ?_
               refine one_ (i := 34) (N := some 49) (bz 38 34359738367) rfl rfl (one_of HT_.out (by kernel_rfl)) (by decide) (fun K hK => ?_)
               refine goes_ Try.func97 (by kernel_rfl) rfl #[.slice A587_0 ((rd_T103 l0 (ji26)).f0).length c587_0, .slice A582_0 ((rd_T103 l0 x10_1).f0).length c582_0] (by rfl) rfl rfl (by (try simp only [List.map_toArray, List.map_cons, List.map_nil]); first | done | (simp only [hji26]; rfl) | rfl | (simp only [List.length_drop, List.length_take]; rfl)) ?_
               with_reducible refine (impl_compare.calls k1 _ _ ((rd_T103 l0 (ji26)).f0) _ _ ((rd_T103 l0 x10_1).f0) t588 _ ?side1 ?side2 ?side3 ?side4 A29.out).mono ?_
               (case side1 => repeat (first | exact (Kd.C_below HR587_0.out HB.out) | (with_reducible refine Kd.C_alloc ?_ _) | (with_reducible refine Kd.C_drewN ?_ _) | (with_reducible refine Kd.C_drew ?_)))
               (case side2 => exact HC587_0.out)
               (case side3 => repeat (first | exact (Kd.C_below HR582_0.out HB.out) | (with_reducible refine Kd.C_alloc ?_ _) | (with_reducible refine Kd.C_drewN ?_ _) | (with_reducible refine Kd.C_drew ?_)))
               (case side4 => exact HC582_0.out)
               rintro e w38 ⟨rfl, hb⟩
               refine ⟨_, rfl, ?_⟩
               have n0_ := Aside0.mk (blk_below (g := gb583) (o := .cells #[.slice A582_0 ((rd_T103 l0 x10_1).f0).length c582_0, .slice A582_1 ((rd_T103 l0 x10_1).f1).length c582_1] 103 (0, 0)) (by (with_reducible repeat (first | refine blk_drewN ?_ _ | refine blk_drew ?_ | refine blk_alloc ?_ _)); exact BK583.out) hb)
               have n1_ := Aside0.mk (below_step (by repeat (first | (with_reducible first | exact HB.out | apply below_alloc | apply pw_below_drewN | apply below_drew1 | refine below_set ?_ GE583.out) | exact HB.out)) hb)
               clear BK583
               clear HB
               have BK583 := n0_
               have HB := n1_
               clear n0_ n1_
               (try clear hb)
               (try clear hb2)
               (try clear hk)
               (try clear hi)
               refine hK.out _ _ ⟨(blk_cell BK583.out 0).trans rfl, (blk_cell BK583.out 1).trans rfl, (kp_ HB hw587_0 :), (kp_ HB hw587_1 :)⟩ (fun hHeld => ?_)
               clear hK K
               refine norm_ (a' := ?_) ?_ ?_
               rotate_left
               ·show Act.put _ (some 49) _ = _
                simp only [Act.put, List.setIfInBounds_toArray, List.set_cons_zero, List.set_cons_succ, i64_w, i32_w]
                rfl
               refine pz_ 35 50 68719476735 ?_
               refine pz_ 36 51 137438953471 ?_
               refine pz_ 37 52 274877906943 ?_
               refine done_ (done_of HT_.out (by kernel_rfl)) ?_
               try go_wp2
               go_ret
               exact ⟨by first | rfl | (simp [errW_none, errW_some] <;> rfl) | (simp only [← hji26]; first | rfl | (simp [errW_none, errW_some] <;> rfl)) | (simp [*, errW_none, errW_some] <;> rfl) | (simp [*, Go.Proofs.Ythgeohdpjedhnaa.Gt.nil_bne]; done), by repeat (first | (with_reducible first | exact HB.out | apply below_alloc | apply pw_below_drewN | apply below_drew1 | refine below_set ?_ GE583.out) | exact HB.out)⟩
              ·rw [if_neg c30] at H
               have c30b0 : decide (0 ≤ t588) = false := decide_eq_false c30
               clear c30
               have H' := Aside0.mk H
               clear H
               have p582 : 0 ≤ (x10_1 : Int) := od_
               have q582 : x10_1 < (l0.length : Int) := od_
               obtain ⟨ad582, A582_0, c582_0, A582_1, c582_1, e582, hx582_0, hx582_1, hl582_0, hi582_0, hl582_1, hi582_1⟩ := at_T103 HR0.out x10_1 p582 q582
               cases e582
               replace hx582_0 := kp_ HB hx582_0
               replace hx582_1 := kp_ HB hx582_1
               have HR582_0 := Aside0.mk hi582_0
               have HC582_0 := Aside0.mk hl582_0
               clear hi582_0 hl582_0
               have HR582_1 := Aside0.mk hi582_1
               have HC582_1 := Aside0.mk hl582_1
               clear hi582_1 hl582_1
               replace p582 := eq_true p582
               replace q582 := eq_true q582
               try go_wp2_with (first | ((with_reducible refine gate_dst (N := 4) rfl ?_); (try (refine gate_guard (by rfl) ?_; dsimp only)); refine box_event ?hg (N := 4) ?hd (cs := #[.slice none 0 0, .slice none 0 0]) (t := 103) ?hr ?_; (case hd => rfl); (case hg => rfl); (case hr => first | (go_simp; done) | (go_simp; rfl)); intro gb583 hg w39 hbox hb; have n0_ := Aside0.mk (below_step bl_ hb); have n1_ := Aside0.mk (hbox); have n2_ := Aside0.mk ((by rw [hg]; exact (below_size bl_) : w.heap.size ≤ gb583)); have n3_ := Aside0.mk ((by rw [hg]; exact (below_size bl_) : w.heap.size ≤ gb583)); clear HB; have HB := n0_; have BK583 := n1_; have GW583 := n2_; have GE583 := n3_; clear n0_ n1_ n2_ n3_; clear hb hbox hg; have hcz40_0 : w39.cell? ⟨gb583, 0, none⟩ = some (.slice none 0 0) := (blk_cell BK583.out 0).trans rfl; have hcz40_1 : w39.cell? ⟨gb583, 1, none⟩ = some (.slice none 0 0) := (blk_cell BK583.out 1).trans rfl; have hfz40_0 := blk_frozen BK583.out 0; have hfz40_1 := blk_frozen BK583.out 1))
               have n0_ : Aside0 (((w39.setCell ⟨gb583, 0, none⟩ (.slice A582_0 ((rd_T103 l0 x10_1).f0).length c582_0)).setCell ⟨gb583, 1, none⟩ (.slice A582_1 ((rd_T103 l0 x10_1).f1).length c582_1)).heap[gb583]? = some (.cells #[.slice A582_0 ((rd_T103 l0 x10_1).f0).length c582_0, .slice A582_1 ((rd_T103 l0 x10_1).f1).length c582_1] 103 (0, 0))) := ⟨by (with_reducible repeat (first | refine blk_drewN ?_ _ | refine blk_drew ?_ | refine blk_alloc ?_ _)); refine blk_put (cs := #[.slice A582_0 ((rd_T103 l0 x10_1).f0).length c582_0, .slice none 0 0]) ?_ 1 _ rfl; (with_reducible repeat (first | refine blk_drewN ?_ _ | refine blk_drew ?_ | refine blk_alloc ?_ _)); refine blk_put (cs := #[.slice none 0 0, .slice none 0 0]) ?_ 0 _ rfl; (with_reducible repeat (first | refine blk_drewN ?_ _ | refine blk_drew ?_ | refine blk_alloc ?_ _)); exact BK583.out⟩
               have n1_ : Aside0 (Below w.heap.size w ((w39.setCell ⟨gb583, 0, none⟩ (.slice A582_0 ((rd_T103 l0 x10_1).f0).length c582_0)).setCell ⟨gb583, 1, none⟩ (.slice A582_1 ((rd_T103 l0 x10_1).f1).length c582_1))) := ⟨by repeat (first | (with_reducible first | exact HB.out | apply below_alloc | apply pw_below_drewN | apply below_drew1 | refine below_set ?_ GE583.out) | exact HB.out)⟩
               (try clear BK583)
               (try clear HB)
               generalize ((w39.setCell ⟨gb583, 0, none⟩ (.slice A582_0 ((rd_T103 l0 x10_1).f0).length c582_0)).setCell ⟨gb583, 1, none⟩ (.slice A582_1 ((rd_T103 l0 x10_1).f1).length c582_1)) = w41 at n0_ n1_ ⊢
               have BK583 := n0_
               have HB := n1_
               clear n0_ n1_
               have n0_ := Aside0.mk (blk_drew BK583.out)
               have n1_ := Aside0.mk (below_drew1 HB.out)
               clear BK583
               clear HB
               have BK583 := n0_
               have HB := n1_
               clear n0_ n1_
               have p587 : 0 ≤ ((ji26) : Int) := od_
               have q587 : (ji26) < (l0.length : Int) := od_
               obtain ⟨ad587, A587_0, c587_0, A587_1, c587_1, e587, hx587_0, hx587_1, hl587_0, hi587_0, hl587_1, hi587_1⟩ := at_T103 HR0.out (ji26) p587 q587
               have hw587_1 := hx587_1
               have hw587_0 := hx587_0
               obtain rfl : ad582 = ad587 := (by injection e587)
               replace hx587_0 := kp_ HB hx587_0
               replace hx587_1 := kp_ HB hx587_1
               have HR587_0 := Aside0.mk hi587_0
               have HC587_0 := Aside0.mk hl587_0
               clear hi587_0 hl587_0
               have HR587_1 := Aside0.mk hi587_1
               have HC587_1 := Aside0.mk hl587_1
               clear hi587_1 hl587_1
               replace p587 := eq_true p587
               replace q587 := eq_true q587
               refine start_ (n := 38) (S := fun w' => w'.cell? ⟨gb583, 0, none⟩ = some (.slice A582_0 ((rd_T103 l0 x10_1).f0).length c582_0) ∧ w'.cell? ⟨gb583, 1, none⟩ = some (.slice A582_1 ((rd_T103 l0 x10_1).f1).length c582_1) ∧ w'.cell? (ad582.add (((ji26)).toNat * 2)) = some (.slice A587_0 ((rd_T103 l0 (ji26)).f0).length c587_0) ∧ w'.cell? ⟨(ad582.add (((ji26)).toNat * 2)).block, (ad582.add (((ji26)).toNat * 2)).off + 1, none⟩ = some (.slice A587_1 ((rd_T103 l0 (ji26)).f1).length c587_1)) (ds := []) (bz 38 0) (by kernel_rfl) rfl rfl ⟨(blk_cell BK583.out 0).trans rfl, (blk_cell BK583.out 1).trans rfl, (kp_ HB hw587_0 :), (kp_ HB hw587_1 :)⟩ (fun hHeld => ?_); refine with_tabW impl_GoodSeries.tab6 impl_GoodSeries.bits6 (fun HT_ HW_ => ?_)
               generalize w41.drew = w42 at BK583 HB HR587_0 HR587_1 hx587_0 hx587_1 hHeld ⊢
               refine pz_ 0 15 1 ?_
               refine tz_ 1 16 3 ?_
               refine one_ (i := 2) (N := some 17) (bz 38 7) rfl rfl (one_of HT_.out (by kernel_rfl)) (by decide) (fun K hK => ?_)
               refine goes_ Try.func69 (by kernel_rfl) rfl #[.slice A582_0 ((rd_T103 l0 x10_1).f0).length c582_0] (by rfl) rfl rfl (by (try simp only [List.map_toArray, List.map_cons, List.map_nil]); first | done | rfl | (simp only [List.length_drop, List.length_take]; rfl)) ?_
               with_reducible refine (impl_GoodLabels.calls k1 _ _ ((rd_T103 l0 x10_1).f0) true _ ?side1 ?side2 A6.out).mono ?_
               (case side1 => repeat (first | exact (Kd.C_below HR582_0.out HB.out) | (with_reducible refine Kd.C_alloc ?_ _) | (with_reducible refine Kd.C_drewN ?_ _) | (with_reducible refine Kd.C_drew ?_)))
               (case side2 => exact HC582_0.out)
               rintro e w43 ⟨rfl, hb⟩
               refine ⟨_, rfl, ?_⟩
               have n0_ := Aside0.mk (blk_below (g := gb583) (o := .cells #[.slice A582_0 ((rd_T103 l0 x10_1).f0).length c582_0, .slice A582_1 ((rd_T103 l0 x10_1).f1).length c582_1] 103 (0, 0)) (by (with_reducible repeat (first | refine blk_drewN ?_ _ | refine blk_drew ?_ | refine blk_alloc ?_ _)); exact BK583.out) hb)
               have n1_ := Aside0.mk (below_step (by repeat (first | (with_reducible first | exact HB.out | apply below_alloc | apply pw_below_drewN | apply below_drew1 | refine below_set ?_ GE583.out) | exact HB.out)) hb)
               clear BK583
               clear HB
               have BK583 := n0_
               have HB := n1_
               clear n0_ n1_
               (try clear hb)
               (try clear hb2)
               (try clear hk)
               (try clear hi)
               refine hK.out _ _ ⟨(blk_cell BK583.out 0).trans rfl, (blk_cell BK583.out 1).trans rfl, (kp_ HB hw587_0 :), (kp_ HB hw587_1 :)⟩ (fun hHeld => ?_)
               clear hK K
               refine norm_ (a' := ?_) ?_ ?_
               rotate_left
               ·show Act.put _ (some 17) _ = _
                simp only [Act.put, List.setIfInBounds_toArray, List.set_cons_zero, List.set_cons_succ, i64_w, i32_w]
                rfl
               refine pz_ 3 18 15 ?_
               refine pz_ 4 19 31 ?_
               refine pz_ 5 20 63 ?_
               refine tz_ 6 21 127 ?_
               refine one_ (i := 7) (N := some 22) (bz 38 255) rfl rfl (one_of HT_.out (by kernel_rfl)) (by decide) (fun K hK => ?_)
               refine goes_ Try.func95 (by kernel_rfl) rfl #[.slice A582_0 ((rd_T103 l0 x10_1).f0).length c582_0, .string (⟨#[95, 110, 97, 109, 101]⟩ : ByteArray)] (by rfl) rfl rfl (by (try simp only [List.map_toArray, List.map_cons, List.map_nil]); first | done | rfl | (simp only [List.length_drop, List.length_take]; rfl)) ?_
               with_reducible refine (impl_valueOf.calls k1 _ _ ((rd_T103 l0 x10_1).f0) (⟨#[95, 110, 97, 109, 101]⟩ : ByteArray) t585 _ ?side1 ?side2 A8.out).mono ?_
               (case side1 => repeat (first | exact (Kd.C_below HR582_0.out HB.out) | (with_reducible refine Kd.C_alloc ?_ _) | (with_reducible refine Kd.C_drewN ?_ _) | (with_reducible refine Kd.C_drew ?_)))
               (case side2 => exact HC582_0.out)
               rintro e w44 ⟨rfl, hb⟩
               refine ⟨_, rfl, ?_⟩
               have n0_ := Aside0.mk (blk_below (g := gb583) (o := .cells #[.slice A582_0 ((rd_T103 l0 x10_1).f0).length c582_0, .slice A582_1 ((rd_T103 l0 x10_1).f1).length c582_1] 103 (0, 0)) (by (with_reducible repeat (first | refine blk_drewN ?_ _ | refine blk_drew ?_ | refine blk_alloc ?_ _)); exact BK583.out) hb)
               have n1_ := Aside0.mk (below_step (by repeat (first | (with_reducible first | exact HB.out | apply below_alloc | apply pw_below_drewN | apply below_drew1 | refine below_set ?_ GE583.out) | exact HB.out)) hb)
               clear BK583
               clear HB
               have BK583 := n0_
               have HB := n1_
               clear n0_ n1_
               (try clear hb)
               (try clear hb2)
               (try clear hk)
               (try clear hi)
               refine hK.out _ _ ⟨(blk_cell BK583.out 0).trans rfl, (blk_cell BK583.out 1).trans rfl, (kp_ HB hw587_0 :), (kp_ HB hw587_1 :)⟩ (fun hHeld => ?_)
               clear hK K
               refine norm_ (a' := ?_) ?_ ?_
               rotate_left
               ·show Act.put _ (some 22) _ = _
                simp only [Act.put, List.setIfInBounds_toArray, List.set_cons_zero, List.set_cons_succ, i64_w, i32_w]
                rfl
               refine pz_ 8 23 511 ?_
               refine pz_ 9 24 1023 ?_
               refine pz_ 10 25 2047 ?_
               refine pz_ 11 26 4095 ?_
               refine tz_ 12 27 8191 ?_
               refine pz_ 13 28 16383 ?_
               refine pz_ 14 29 32767 ?_
               refine pz_ 15 30 65535 ?_
               refine pz_ 16 31 131071 ?_
               refine pz_ 17 32 262143 ?_
               refine tz_ 18 33 524287 ?_
               refine one_ (i := 19) (N := some 34) (bz 38 1048575) rfl rfl (one_of HT_.out (by kernel_rfl)) (by decide) (fun K hK => ?_)
               refine goes_ Try.func96 (by kernel_rfl) rfl #[.slice A582_1 ((rd_T103 l0 x10_1).f1).length c582_1] (by rfl) rfl rfl (by (try simp only [List.map_toArray, List.map_cons, List.map_nil]); first | done | rfl | (simp only [List.length_drop, List.length_take]; rfl)) ?_
               with_reducible refine (impl_GoodSamples.calls k1 _ _ ((rd_T103 l0 x10_1).f1) true _ ?side1 ?side2 A23.out).mono ?_
               (case side1 => repeat (first | exact (Kd.C_below HR582_1.out HB.out) | (with_reducible refine Kd.C_alloc ?_ _) | (with_reducible refine Kd.C_drewN ?_ _) | (with_reducible refine Kd.C_drew ?_)))
               (case side2 => exact HC582_1.out)
               rintro e w45 ⟨rfl, hb⟩
               refine ⟨_, rfl, ?_⟩
               have n0_ := Aside0.mk (blk_below (g := gb583) (o := .cells #[.slice A582_0 ((rd_T103 l0 x10_1).f0).length c582_0, .slice A582_1 ((rd_T103 l0 x10_1).f1).length c582_1] 103 (0, 0)) (by (with_reducible repeat (first | refine blk_drewN ?_ _ | refine blk_drew ?_ | refine blk_alloc ?_ _)); exact BK583.out) hb)
               have n1_ := Aside0.mk (below_step (by repeat (first | (with_reducible first | exact HB.out | apply below_alloc | apply pw_below_drewN | apply below_drew1 | refine below_set ?_ GE583.out) | exact HB.out)) hb)
               clear BK583
               clear HB
               have BK583 := n0_
               have HB := n1_
               clear n0_ n1_
               (try clear hb)
               (try clear hb2)
               (try clear hk)
               (try clear hi)
               refine hK.out _ _ ⟨(blk_cell BK583.out 0).trans rfl, (blk_cell BK583.out 1).trans rfl, (kp_ HB hw587_0 :), (kp_ HB hw587_1 :)⟩ (fun hHeld => ?_)
               clear hK K
               refine norm_ (a' := ?_) ?_ ?_
               rotate_left
               ·show Act.put _ (some 34) _ = _
                simp only [Act.put, List.setIfInBounds_toArray, List.set_cons_zero, List.set_cons_succ, i64_w, i32_w]
                rfl
               refine pz_ 20 35 2097151 ?_
               refine pz_ 21 36 4194303 ?_
               refine pz_ 22 37 8388607 ?_
               refine pz_ 23 38 16777215 ?_
               refine pz_ 24 39 33554431 ?_
               refine pz_ 25 40 67108863 ?_
               refine pz_ 26 41 134217727 ?_
               refine pz_ 27 42 268435455 ?_
               refine pz_ 28 43 536870911 ?_
               refine pz_ 29 44 1073741823 ?_
               refine pz_ 30 45 2147483647 ?_
               refine pz_ 32 47 6442450943 ?_
               refine tz_ 31 46 8589934591 ?_
               refine tz_ 33 48 17179869183 ?_
               refine one_ (i := 34) (N := some 49) (bz 38 34359738367) rfl rfl (one_of HT_.out (by kernel_rfl)) (by decide) (fun K hK => ?_)
               refine goes_ Try.func97 (by kernel_rfl) rfl #[.slice A587_0 ((rd_T103 l0 (ji26)).f0).length c587_0, .slice A582_0 ((rd_T103 l0 x10_1).f0).length c582_0] (by rfl) rfl rfl (by (try simp only [List.map_toArray, List.map_cons, List.map_nil]); first | done | (simp only [hji26]; rfl) | rfl | (simp only [List.length_drop, List.length_take]; rfl)) ?_
               with_reducible refine (impl_compare.calls k1 _ _ ((rd_T103 l0 (ji26)).f0) _ _ ((rd_T103 l0 x10_1).f0) t588 _ ?side1 ?side2 ?side3 ?side4 A29.out).mono ?_
               (case side1 => repeat (first | exact (Kd.C_below HR587_0.out HB.out) | (with_reducible refine Kd.C_alloc ?_ _) | (with_reducible refine Kd.C_drewN ?_ _) | (with_reducible refine Kd.C_drew ?_)))
               (case side2 => exact HC587_0.out)
               (case side3 => repeat (first | exact (Kd.C_below HR582_0.out HB.out) | (with_reducible refine Kd.C_alloc ?_ _) | (with_reducible refine Kd.C_drewN ?_ _) | (with_reducible refine Kd.C_drew ?_)))
               (case side4 => exact HC582_0.out)
               rintro e w46 ⟨rfl, hb⟩
               refine ⟨_, rfl, ?_⟩
               have n0_ := Aside0.mk (blk_below (g := gb583) (o := .cells #[.slice A582_0 ((rd_T103 l0 x10_1).f0).length c582_0, .slice A582_1 ((rd_T103 l0 x10_1).f1).length c582_1] 103 (0, 0)) (by (with_reducible repeat (first | refine blk_drewN ?_ _ | refine blk_drew ?_ | refine blk_alloc ?_ _)); exact BK583.out) hb)
               have n1_ := Aside0.mk (below_step (by repeat (first | (with_reducible first | exact HB.out | apply below_alloc | apply pw_below_drewN | apply below_drew1 | refine below_set ?_ GE583.out) | exact HB.out)) hb)
               clear BK583
               clear HB
               have BK583 := n0_
               have HB := n1_
               clear n0_ n1_
               (try clear hb)
               (try clear hb2)
               (try clear hk)
               (try clear hi)
               refine hK.out _ _ ⟨(blk_cell BK583.out 0).trans rfl, (blk_cell BK583.out 1).trans rfl, (kp_ HB hw587_0 :), (kp_ HB hw587_1 :)⟩ (fun hHeld => ?_)
               clear hK K
               refine norm_ (a' := ?_) ?_ ?_
               rotate_left
               ·show Act.put _ (some 49) _ = _
                simp only [Act.put, List.setIfInBounds_toArray, List.set_cons_zero, List.set_cons_succ, i64_w, i32_w]
                rfl
               refine pz_ 35 50 68719476735 ?_
               refine pz_ 36 51 137438953471 ?_
               refine pz_ 37 52 274877906943 ?_
               refine done_ (done_of HT_.out (by kernel_rfl)) ?_
               try go_wp2
               go_roundg k1
               case measure => have := HK1.out; omega
               case rel => exact ⟨(wrap64 (x10_1 + 1)), (by first | rfl | (simp; done) | (simp [*]; done)), H', ⟨by have := HK1.out; omega⟩, ⟨by repeat (first | (with_reducible first | exact HB.out | apply below_alloc | apply pw_below_drewN | apply below_drew1 | refine below_set ?_ GE583.out) | exact HB.out)⟩⟩
             ·rw [if_neg c28] at H
              exact absurd H (by simp)
            ·rw [if_neg c27] at H
             exact absurd H (by simp)
           ·rw [if_neg c25] at H
            have c25b0 : decide (0 < x10_1) = false := decide_eq_false c25
            clear c25
            have H' := Aside0.mk H
            clear H
            have p582 : 0 ≤ (x10_1 : Int) := od_
            have q582 : x10_1 < (l0.length : Int) := od_
            obtain ⟨ad582, A582_0, c582_0, A582_1, c582_1, e582, hx582_0, hx582_1, hl582_0, hi582_0, hl582_1, hi582_1⟩ := at_T103 HR0.out x10_1 p582 q582
            cases e582
            replace hx582_0 := kp_ HB hx582_0
            replace hx582_1 := kp_ HB hx582_1
            have HR582_0 := Aside0.mk hi582_0
            have HC582_0 := Aside0.mk hl582_0
            clear hi582_0 hl582_0
            have HR582_1 := Aside0.mk hi582_1
            have HC582_1 := Aside0.mk hl582_1
            clear hi582_1 hl582_1
            replace p582 := eq_true p582
            replace q582 := eq_true q582
            try go_wp2_with (first | ((with_reducible refine gate_dst (N := 4) rfl ?_); (try (refine gate_guard (by rfl) ?_; dsimp only)); refine box_event ?hg (N := 4) ?hd (cs := #[.slice none 0 0, .slice none 0 0]) (t := 103) ?hr ?_; (case hd => rfl); (case hg => rfl); (case hr => first | (go_simp; done) | (go_simp; rfl)); intro gb583 hg w47 hbox hb; have n0_ := Aside0.mk (below_step bl_ hb); have n1_ := Aside0.mk (hbox); have n2_ := Aside0.mk ((by rw [hg]; exact (below_size bl_) : w.heap.size ≤ gb583)); have n3_ := Aside0.mk ((by rw [hg]; exact (below_size bl_) : w.heap.size ≤ gb583)); clear HB; have HB := n0_; have BK583 := n1_; have GW583 := n2_; have GE583 := n3_; clear n0_ n1_ n2_ n3_; clear hb hbox hg; have hcz48_0 : w47.cell? ⟨gb583, 0, none⟩ = some (.slice none 0 0) := (blk_cell BK583.out 0).trans rfl; have hcz48_1 : w47.cell? ⟨gb583, 1, none⟩ = some (.slice none 0 0) := (blk_cell BK583.out 1).trans rfl; have hfz48_0 := blk_frozen BK583.out 0; have hfz48_1 := blk_frozen BK583.out 1))
            have n0_ : Aside0 (((w47.setCell ⟨gb583, 0, none⟩ (.slice A582_0 ((rd_T103 l0 x10_1).f0).length c582_0)).setCell ⟨gb583, 1, none⟩ (.slice A582_1 ((rd_T103 l0 x10_1).f1).length c582_1)).heap[gb583]? = some (.cells #[.slice A582_0 ((rd_T103 l0 x10_1).f0).length c582_0, .slice A582_1 ((rd_T103 l0 x10_1).f1).length c582_1] 103 (0, 0))) := ⟨by (with_reducible repeat (first | refine blk_drewN ?_ _ | refine blk_drew ?_ | refine blk_alloc ?_ _)); refine blk_put (cs := #[.slice A582_0 ((rd_T103 l0 x10_1).f0).length c582_0, .slice none 0 0]) ?_ 1 _ rfl; (with_reducible repeat (first | refine blk_drewN ?_ _ | refine blk_drew ?_ | refine blk_alloc ?_ _)); refine blk_put (cs := #[.slice none 0 0, .slice none 0 0]) ?_ 0 _ rfl; (with_reducible repeat (first | refine blk_drewN ?_ _ | refine blk_drew ?_ | refine blk_alloc ?_ _)); exact BK583.out⟩
            have n1_ : Aside0 (Below w.heap.size w ((w47.setCell ⟨gb583, 0, none⟩ (.slice A582_0 ((rd_T103 l0 x10_1).f0).length c582_0)).setCell ⟨gb583, 1, none⟩ (.slice A582_1 ((rd_T103 l0 x10_1).f1).length c582_1))) := ⟨by repeat (first | (with_reducible first | exact HB.out | apply below_alloc | apply pw_below_drewN | apply below_drew1 | refine below_set ?_ GE583.out) | exact HB.out)⟩
            (try clear BK583)
            (try clear HB)
            generalize ((w47.setCell ⟨gb583, 0, none⟩ (.slice A582_0 ((rd_T103 l0 x10_1).f0).length c582_0)).setCell ⟨gb583, 1, none⟩ (.slice A582_1 ((rd_T103 l0 x10_1).f1).length c582_1)) = w49 at n0_ n1_ ⊢
            have BK583 := n0_
            have HB := n1_
            clear n0_ n1_
            have n0_ := Aside0.mk (blk_drew BK583.out)
            have n1_ := Aside0.mk (below_drew1 HB.out)
            clear BK583
            clear HB
            have BK583 := n0_
            have HB := n1_
            clear n0_ n1_
            refine start_ (n := 38) (S := fun w' => w'.cell? ⟨gb583, 0, none⟩ = some (.slice A582_0 ((rd_T103 l0 x10_1).f0).length c582_0) ∧ w'.cell? ⟨gb583, 1, none⟩ = some (.slice A582_1 ((rd_T103 l0 x10_1).f1).length c582_1)) (ds := []) (bz 38 0) (by kernel_rfl) rfl rfl ⟨(blk_cell BK583.out 0).trans rfl, (blk_cell BK583.out 1).trans rfl⟩ (fun hHeld => ?_); refine with_tabW impl_GoodSeries.tab6 impl_GoodSeries.bits6 (fun HT_ HW_ => ?_)
            generalize w49.drew = w50 at BK583 HB hHeld ⊢
            refine pz_ 0 15 1 ?_
            refine tz_ 1 16 3 ?_
            refine one_ (i := 2) (N := some 17) (bz 38 7) rfl rfl (one_of HT_.out (by kernel_rfl)) (by decide) (fun K hK => ?_)
            refine goes_ Try.func69 (by kernel_rfl) rfl #[.slice A582_0 ((rd_T103 l0 x10_1).f0).length c582_0] (by rfl) rfl rfl (by (try simp only [List.map_toArray, List.map_cons, List.map_nil]); first | done | rfl | (simp only [List.length_drop, List.length_take]; rfl)) ?_
            with_reducible refine (impl_GoodLabels.calls k1 _ _ ((rd_T103 l0 x10_1).f0) true _ ?side1 ?side2 A6.out).mono ?_
            (case side1 => repeat (first | exact (Kd.C_below HR582_0.out HB.out) | (with_reducible refine Kd.C_alloc ?_ _) | (with_reducible refine Kd.C_drewN ?_ _) | (with_reducible refine Kd.C_drew ?_)))
            (case side2 => exact HC582_0.out)
            rintro e w51 ⟨rfl, hb⟩
            refine ⟨_, rfl, ?_⟩
            have n0_ := Aside0.mk (blk_below (g := gb583) (o := .cells #[.slice A582_0 ((rd_T103 l0 x10_1).f0).length c582_0, .slice A582_1 ((rd_T103 l0 x10_1).f1).length c582_1] 103 (0, 0)) (by (with_reducible repeat (first | refine blk_drewN ?_ _ | refine blk_drew ?_ | refine blk_alloc ?_ _)); exact BK583.out) hb)
            have n1_ := Aside0.mk (below_step (by repeat (first | (with_reducible first | exact HB.out | apply below_alloc | apply pw_below_drewN | apply below_drew1 | refine below_set ?_ GE583.out) | exact HB.out)) hb)
            clear BK583
            clear HB
            have BK583 := n0_
            have HB := n1_
            clear n0_ n1_
            (try clear hb)
            (try clear hb2)
            (try clear hk)
            (try clear hi)
            refine hK.out _ _ ⟨(blk_cell BK583.out 0).trans rfl, (blk_cell BK583.out 1).trans rfl⟩ (fun hHeld => ?_)
            clear hK K
            refine norm_ (a' := ?_) ?_ ?_
            rotate_left
            ·show Act.put _ (some 17) _ = _
             simp only [Act.put, List.setIfInBounds_toArray, List.set_cons_zero, List.set_cons_succ, i64_w, i32_w]
             rfl
            refine pz_ 3 18 15 ?_
            refine pz_ 4 19 31 ?_
            refine pz_ 5 20 63 ?_
            refine tz_ 6 21 127 ?_
            refine one_ (i := 7) (N := some 22) (bz 38 255) rfl rfl (one_of HT_.out (by kernel_rfl)) (by decide) (fun K hK => ?_)
            refine goes_ Try.func95 (by kernel_rfl) rfl #[.slice A582_0 ((rd_T103 l0 x10_1).f0).length c582_0, .string (⟨#[95, 110, 97, 109, 101]⟩ : ByteArray)] (by rfl) rfl rfl (by (try simp only [List.map_toArray, List.map_cons, List.map_nil]); first | done | rfl | (simp only [List.length_drop, List.length_take]; rfl)) ?_
            with_reducible refine (impl_valueOf.calls k1 _ _ ((rd_T103 l0 x10_1).f0) (⟨#[95, 110, 97, 109, 101]⟩ : ByteArray) t585 _ ?side1 ?side2 A8.out).mono ?_
            (case side1 => repeat (first | exact (Kd.C_below HR582_0.out HB.out) | (with_reducible refine Kd.C_alloc ?_ _) | (with_reducible refine Kd.C_drewN ?_ _) | (with_reducible refine Kd.C_drew ?_)))
            (case side2 => exact HC582_0.out)
            rintro e w52 ⟨rfl, hb⟩
            refine ⟨_, rfl, ?_⟩
            have n0_ := Aside0.mk (blk_below (g := gb583) (o := .cells #[.slice A582_0 ((rd_T103 l0 x10_1).f0).length c582_0, .slice A582_1 ((rd_T103 l0 x10_1).f1).length c582_1] 103 (0, 0)) (by (with_reducible repeat (first | refine blk_drewN ?_ _ | refine blk_drew ?_ | refine blk_alloc ?_ _)); exact BK583.out) hb)
            have n1_ := Aside0.mk (below_step (by repeat (first | (with_reducible first | exact HB.out | apply below_alloc | apply pw_below_drewN | apply below_drew1 | refine below_set ?_ GE583.out) | exact HB.out)) hb)
            clear BK583
            clear HB
            have BK583 := n0_
            have HB := n1_
            clear n0_ n1_
            (try clear hb)
            (try clear hb2)
            (try clear hk)
            (try clear hi)
            refine hK.out _ _ ⟨(blk_cell BK583.out 0).trans rfl, (blk_cell BK583.out 1).trans rfl⟩ (fun hHeld => ?_)
            clear hK K
            refine norm_ (a' := ?_) ?_ ?_
            rotate_left
            ·show Act.put _ (some 22) _ = _
             simp only [Act.put, List.setIfInBounds_toArray, List.set_cons_zero, List.set_cons_succ, i64_w, i32_w]
             rfl
            refine pz_ 8 23 511 ?_
            refine pz_ 9 24 1023 ?_
            refine pz_ 10 25 2047 ?_
            refine pz_ 11 26 4095 ?_
            refine tz_ 12 27 8191 ?_
            refine pz_ 13 28 16383 ?_
            refine pz_ 14 29 32767 ?_
            refine pz_ 15 30 65535 ?_
            refine pz_ 16 31 131071 ?_
            refine pz_ 17 32 262143 ?_
            refine tz_ 18 33 524287 ?_
            refine one_ (i := 19) (N := some 34) (bz 38 1048575) rfl rfl (one_of HT_.out (by kernel_rfl)) (by decide) (fun K hK => ?_)
            refine goes_ Try.func96 (by kernel_rfl) rfl #[.slice A582_1 ((rd_T103 l0 x10_1).f1).length c582_1] (by rfl) rfl rfl (by (try simp only [List.map_toArray, List.map_cons, List.map_nil]); first | done | rfl | (simp only [List.length_drop, List.length_take]; rfl)) ?_
            with_reducible refine (impl_GoodSamples.calls k1 _ _ ((rd_T103 l0 x10_1).f1) true _ ?side1 ?side2 A23.out).mono ?_
            (case side1 => repeat (first | exact (Kd.C_below HR582_1.out HB.out) | (with_reducible refine Kd.C_alloc ?_ _) | (with_reducible refine Kd.C_drewN ?_ _) | (with_reducible refine Kd.C_drew ?_)))
            (case side2 => exact HC582_1.out)
            rintro e w53 ⟨rfl, hb⟩
            refine ⟨_, rfl, ?_⟩
            have n0_ := Aside0.mk (blk_below (g := gb583) (o := .cells #[.slice A582_0 ((rd_T103 l0 x10_1).f0).length c582_0, .slice A582_1 ((rd_T103 l0 x10_1).f1).length c582_1] 103 (0, 0)) (by (with_reducible repeat (first | refine blk_drewN ?_ _ | refine blk_drew ?_ | refine blk_alloc ?_ _)); exact BK583.out) hb)
            have n1_ := Aside0.mk (below_step (by repeat (first | (with_reducible first | exact HB.out | apply below_alloc | apply pw_below_drewN | apply below_drew1 | refine below_set ?_ GE583.out) | exact HB.out)) hb)
            clear BK583
            clear HB
            have BK583 := n0_
            have HB := n1_
            clear n0_ n1_
            (try clear hb)
            (try clear hb2)
            (try clear hk)
            (try clear hi)
            refine hK.out _ _ ⟨(blk_cell BK583.out 0).trans rfl, (blk_cell BK583.out 1).trans rfl⟩ (fun hHeld => ?_)
            clear hK K
            refine norm_ (a' := ?_) ?_ ?_
            rotate_left
            ·show Act.put _ (some 34) _ = _
             simp only [Act.put, List.setIfInBounds_toArray, List.set_cons_zero, List.set_cons_succ, i64_w, i32_w]
             rfl
            refine pz_ 20 35 2097151 ?_
            refine pz_ 21 36 4194303 ?_
            refine pz_ 22 37 8388607 ?_
            refine pz_ 23 38 16777215 ?_
            refine pz_ 24 39 33554431 ?_
            refine pz_ 25 40 67108863 ?_
            refine uz_ 26 41 134217727 ?_
            refine uz_ 27 42 268435455 ?_
            refine uz_ 28 43 536870911 ?_
            refine uz_ 29 44 1073741823 ?_
            refine uz_ 30 45 2147483647 ?_
            refine uz_ 31 46 4294967295 ?_
            refine uz_ 32 47 8589934591 ?_
            refine uz_ 33 48 17179869183 ?_
            refine uz_ 34 49 34359738367 ?_
            refine uz_ 35 50 68719476735 ?_
            refine pz_ 36 51 137438953471 ?_
            refine pz_ 37 52 274877906943 ?_
            refine done_ (done_of HT_.out (by kernel_rfl)) ?_
            try go_wp2
            go_roundg k1
            case measure => have := HK1.out; omega
            case rel => exact ⟨(wrap64 (x10_1 + 1)), (by first | rfl | (simp; done) | (simp [*]; done)), H', ⟨by have := HK1.out; omega⟩, ⟨by repeat (first | (with_reducible first | exact HB.out | apply below_alloc | apply pw_below_drewN | apply below_drew1 | refine below_set ?_ GE583.out) | exact HB.out)⟩⟩
          ·replace c24 := Bool.eq_false_iff.mpr c24
           subst c24
           have H1 : (some false) = some r := by rw [if_neg (show ¬ (false = true) by decide)] at H; exact H
           clear H
           have H := H1
           clear H1
           obtain rfl := Option.some.inj H
           have p582 : 0 ≤ (x10_1 : Int) := od_
           have q582 : x10_1 < (l0.length : Int) := od_
           obtain ⟨ad582, A582_0, c582_0, A582_1, c582_1, e582, hx582_0, hx582_1, hl582_0, hi582_0, hl582_1, hi582_1⟩ := at_T103 HR0.out x10_1 p582 q582
           cases e582
           replace hx582_0 := kp_ HB hx582_0
           replace hx582_1 := kp_ HB hx582_1
           have HR582_0 := Aside0.mk hi582_0
           have HC582_0 := Aside0.mk hl582_0
           clear hi582_0 hl582_0
           have HR582_1 := Aside0.mk hi582_1
           have HC582_1 := Aside0.mk hl582_1
           clear hi582_1 hl582_1
           replace p582 := eq_true p582
           replace q582 := eq_true q582
           try go_wp2_with (first | ((with_reducible refine gate_dst (N := 4) rfl ?_); (try (refine gate_guard (by rfl) ?_; dsimp only)); refine box_event ?hg (N := 4) ?hd (cs := #[.slice none 0 0, .slice none 0 0]) (t := 103) ?hr ?_; (case hd => rfl); (case hg => rfl); (case hr => first | (go_simp; done) | (go_simp; rfl)); intro gb583 hg w54 hbox hb; have n0_ := Aside0.mk (below_step bl_ hb); have n1_ := Aside0.mk (hbox); have n2_ := Aside0.mk ((by rw [hg]; exact (below_size bl_) : w.heap.size ≤ gb583)); have n3_ := Aside0.mk ((by rw [hg]; exact (below_size bl_) : w.heap.size ≤ gb583)); clear HB; have HB := n0_; have BK583 := n1_; have GW583 := n2_; have GE583 := n3_; clear n0_ n1_ n2_ n3_; clear hb hbox hg; have hcz55_0 : w54.cell? ⟨gb583, 0, none⟩ = some (.slice none 0 0) := (blk_cell BK583.out 0).trans rfl; have hcz55_1 : w54.cell? ⟨gb583, 1, none⟩ = some (.slice none 0 0) := (blk_cell BK583.out 1).trans rfl; have hfz55_0 := blk_frozen BK583.out 0; have hfz55_1 := blk_frozen BK583.out 1))
           have n0_ : Aside0 (((w54.setCell ⟨gb583, 0, none⟩ (.slice A582_0 ((rd_T103 l0 x10_1).f0).length c582_0)).setCell ⟨gb583, 1, none⟩ (.slice A582_1 ((rd_T103 l0 x10_1).f1).length c582_1)).heap[gb583]? = some (.cells #[.slice A582_0 ((rd_T103 l0 x10_1).f0).length c582_0, .slice A582_1 ((rd_T103 l0 x10_1).f1).length c582_1] 103 (0, 0))) := ⟨by (with_reducible repeat (first | refine blk_drewN ?_ _ | refine blk_drew ?_ | refine blk_alloc ?_ _)); refine blk_put (cs := #[.slice A582_0 ((rd_T103 l0 x10_1).f0).length c582_0, .slice none 0 0]) ?_ 1 _ rfl; (with_reducible repeat (first | refine blk_drewN ?_ _ | refine blk_drew ?_ | refine blk_alloc ?_ _)); refine blk_put (cs := #[.slice none 0 0, .slice none 0 0]) ?_ 0 _ rfl; (with_reducible repeat (first | refine blk_drewN ?_ _ | refine blk_drew ?_ | refine blk_alloc ?_ _)); exact BK583.out⟩
           have n1_ : Aside0 (Below w.heap.size w ((w54.setCell ⟨gb583, 0, none⟩ (.slice A582_0 ((rd_T103 l0 x10_1).f0).length c582_0)).setCell ⟨gb583, 1, none⟩ (.slice A582_1 ((rd_T103 l0 x10_1).f1).length c582_1))) := ⟨by repeat (first | (with_reducible first | exact HB.out | apply below_alloc | apply pw_below_drewN | apply below_drew1 | refine below_set ?_ GE583.out) | exact HB.out)⟩
           (try clear BK583)
           (try clear HB)
           generalize ((w54.setCell ⟨gb583, 0, none⟩ (.slice A582_0 ((rd_T103 l0 x10_1).f0).length c582_0)).setCell ⟨gb583, 1, none⟩ (.slice A582_1 ((rd_T103 l0 x10_1).f1).length c582_1)) = w56 at n0_ n1_ ⊢
           have BK583 := n0_
           have HB := n1_
           clear n0_ n1_
           have n0_ := Aside0.mk (blk_drew BK583.out)
           have n1_ := Aside0.mk (below_drew1 HB.out)
           clear BK583
           clear HB
           have BK583 := n0_
           have HB := n1_
           clear n0_ n1_
           refine start_ (n := 38) (S := fun w' => w'.cell? ⟨gb583, 0, none⟩ = some (.slice A582_0 ((rd_T103 l0 x10_1).f0).length c582_0) ∧ w'.cell? ⟨gb583, 1, none⟩ = some (.slice A582_1 ((rd_T103 l0 x10_1).f1).length c582_1)) (ds := []) (bz 38 0) (by kernel_rfl) rfl rfl ⟨(blk_cell BK583.out 0).trans rfl, (blk_cell BK583.out 1).trans rfl⟩ (fun hHeld => ?_); refine with_tabW impl_GoodSeries.tab6 impl_GoodSeries.bits6 (fun HT_ HW_ => ?_)
           generalize w56.drew = w57 at BK583 HB hHeld ⊢
           refine pz_ 0 15 1 ?_
           refine tz_ 1 16 3 ?_
           refine one_ (i := 2) (N := some 17) (bz 38 7) rfl rfl (one_of HT_.out (by kernel_rfl)) (by decide) (fun K hK => ?_)
           refine goes_ Try.func69 (by kernel_rfl) rfl #[.slice A582_0 ((rd_T103 l0 x10_1).f0).length c582_0] (by rfl) rfl rfl (by (try simp only [List.map_toArray, List.map_cons, List.map_nil]); first | done | rfl | (simp only [List.length_drop, List.length_take]; rfl)) ?_
           with_reducible refine (impl_GoodLabels.calls k1 _ _ ((rd_T103 l0 x10_1).f0) true _ ?side1 ?side2 A6.out).mono ?_
           (case side1 => repeat (first | exact (Kd.C_below HR582_0.out HB.out) | (with_reducible refine Kd.C_alloc ?_ _) | (with_reducible refine Kd.C_drewN ?_ _) | (with_reducible refine Kd.C_drew ?_)))
           (case side2 => exact HC582_0.out)
           rintro e w58 ⟨rfl, hb⟩
           refine ⟨_, rfl, ?_⟩
           have n0_ := Aside0.mk (blk_below (g := gb583) (o := .cells #[.slice A582_0 ((rd_T103 l0 x10_1).f0).length c582_0, .slice A582_1 ((rd_T103 l0 x10_1).f1).length c582_1] 103 (0, 0)) (by (with_reducible repeat (first | refine blk_drewN ?_ _ | refine blk_drew ?_ | refine blk_alloc ?_ _)); exact BK583.out) hb)
           have n1_ := Aside0.mk (below_step (by repeat (first | (with_reducible first | exact HB.out | apply below_alloc | apply pw_below_drewN | apply below_drew1 | refine below_set ?_ GE583.out) | exact HB.out)) hb)
           clear BK583
           clear HB
           have BK583 := n0_
           have HB := n1_
           clear n0_ n1_
           (try clear hb)
           (try clear hb2)
           (try clear hk)
           (try clear hi)
           refine hK.out _ _ ⟨(blk_cell BK583.out 0).trans rfl, (blk_cell BK583.out 1).trans rfl⟩ (fun hHeld => ?_)
           clear hK K
           refine norm_ (a' := ?_) ?_ ?_
           rotate_left
           ·show Act.put _ (some 17) _ = _
            simp only [Act.put, List.setIfInBounds_toArray, List.set_cons_zero, List.set_cons_succ, i64_w, i32_w]
            rfl
           refine pz_ 3 18 15 ?_
           refine pz_ 4 19 31 ?_
           refine pz_ 5 20 63 ?_
           refine tz_ 6 21 127 ?_
           refine one_ (i := 7) (N := some 22) (bz 38 255) rfl rfl (one_of HT_.out (by kernel_rfl)) (by decide) (fun K hK => ?_)
           refine goes_ Try.func95 (by kernel_rfl) rfl #[.slice A582_0 ((rd_T103 l0 x10_1).f0).length c582_0, .string (⟨#[95, 110, 97, 109, 101]⟩ : ByteArray)] (by rfl) rfl rfl (by (try simp only [List.map_toArray, List.map_cons, List.map_nil]); first | done | rfl | (simp only [List.length_drop, List.length_take]; rfl)) ?_
           with_reducible refine (impl_valueOf.calls k1 _ _ ((rd_T103 l0 x10_1).f0) (⟨#[95, 110, 97, 109, 101]⟩ : ByteArray) t585 _ ?side1 ?side2 A8.out).mono ?_
           (case side1 => repeat (first | exact (Kd.C_below HR582_0.out HB.out) | (with_reducible refine Kd.C_alloc ?_ _) | (with_reducible refine Kd.C_drewN ?_ _) | (with_reducible refine Kd.C_drew ?_)))
           (case side2 => exact HC582_0.out)
           rintro e w59 ⟨rfl, hb⟩
           refine ⟨_, rfl, ?_⟩
           have n0_ := Aside0.mk (blk_below (g := gb583) (o := .cells #[.slice A582_0 ((rd_T103 l0 x10_1).f0).length c582_0, .slice A582_1 ((rd_T103 l0 x10_1).f1).length c582_1] 103 (0, 0)) (by (with_reducible repeat (first | refine blk_drewN ?_ _ | refine blk_drew ?_ | refine blk_alloc ?_ _)); exact BK583.out) hb)
           have n1_ := Aside0.mk (below_step (by repeat (first | (with_reducible first | exact HB.out | apply below_alloc | apply pw_below_drewN | apply below_drew1 | refine below_set ?_ GE583.out) | exact HB.out)) hb)
           clear BK583
           clear HB
           have BK583 := n0_
           have HB := n1_
           clear n0_ n1_
           (try clear hb)
           (try clear hb2)
           (try clear hk)
           (try clear hi)
           refine hK.out _ _ ⟨(blk_cell BK583.out 0).trans rfl, (blk_cell BK583.out 1).trans rfl⟩ (fun hHeld => ?_)
           clear hK K
           refine norm_ (a' := ?_) ?_ ?_
           rotate_left
           ·show Act.put _ (some 22) _ = _
            simp only [Act.put, List.setIfInBounds_toArray, List.set_cons_zero, List.set_cons_succ, i64_w, i32_w]
            rfl
           refine pz_ 8 23 511 ?_
           refine pz_ 9 24 1023 ?_
           refine pz_ 10 25 2047 ?_
           refine pz_ 11 26 4095 ?_
           refine tz_ 12 27 8191 ?_
           refine pz_ 13 28 16383 ?_
           refine pz_ 14 29 32767 ?_
           refine pz_ 15 30 65535 ?_
           refine pz_ 16 31 131071 ?_
           refine pz_ 17 32 262143 ?_
           refine tz_ 18 33 524287 ?_
           refine one_ (i := 19) (N := some 34) (bz 38 1048575) rfl rfl (one_of HT_.out (by kernel_rfl)) (by decide) (fun K hK => ?_)
           refine goes_ Try.func96 (by kernel_rfl) rfl #[.slice A582_1 ((rd_T103 l0 x10_1).f1).length c582_1] (by rfl) rfl rfl (by (try simp only [List.map_toArray, List.map_cons, List.map_nil]); first | done | rfl | (simp only [List.length_drop, List.length_take]; rfl)) ?_
           with_reducible refine (impl_GoodSamples.calls k1 _ _ ((rd_T103 l0 x10_1).f1) false _ ?side1 ?side2 A23.out).mono ?_
           (case side1 => repeat (first | exact (Kd.C_below HR582_1.out HB.out) | (with_reducible refine Kd.C_alloc ?_ _) | (with_reducible refine Kd.C_drewN ?_ _) | (with_reducible refine Kd.C_drew ?_)))
           (case side2 => exact HC582_1.out)
           rintro e w60 ⟨rfl, hb⟩
           refine ⟨_, rfl, ?_⟩
           have n0_ := Aside0.mk (blk_below (g := gb583) (o := .cells #[.slice A582_0 ((rd_T103 l0 x10_1).f0).length c582_0, .slice A582_1 ((rd_T103 l0 x10_1).f1).length c582_1] 103 (0, 0)) (by (with_reducible repeat (first | refine blk_drewN ?_ _ | refine blk_drew ?_ | refine blk_alloc ?_ _)); exact BK583.out) hb)
           have n1_ := Aside0.mk (below_step (by repeat (first | (with_reducible first | exact HB.out | apply below_alloc | apply pw_below_drewN | apply below_drew1 | refine below_set ?_ GE583.out) | exact HB.out)) hb)
           clear BK583
           clear HB
           have BK583 := n0_
           have HB := n1_
           clear n0_ n1_
           (try clear hb)
           (try clear hb2)
           (try clear hk)
           (try clear hi)
           refine hK.out _ _ ⟨(blk_cell BK583.out 0).trans rfl, (blk_cell BK583.out 1).trans rfl⟩ (fun hHeld => ?_)
           clear hK K
           refine norm_ (a' := ?_) ?_ ?_
           rotate_left
           ·show Act.put _ (some 34) _ = _
            simp only [Act.put, List.setIfInBounds_toArray, List.set_cons_zero, List.set_cons_succ, i64_w, i32_w]
            rfl
           refine pz_ 20 35 2097151 ?_
           refine pz_ 21 36 4194303 ?_
           refine pz_ 22 37 8388607 ?_
           refine uz_ 23 38 16777215 ?_
           refine uz_ 24 39 33554431 ?_
           refine uz_ 25 40 67108863 ?_
           refine uz_ 26 41 134217727 ?_
           refine uz_ 27 42 268435455 ?_
           refine uz_ 28 43 536870911 ?_
           refine uz_ 29 44 1073741823 ?_
           refine uz_ 30 45 2147483647 ?_
           refine uz_ 31 46 4294967295 ?_
           refine uz_ 32 47 8589934591 ?_
           refine uz_ 33 48 17179869183 ?_
           refine uz_ 34 49 34359738367 ?_
           refine uz_ 35 50 68719476735 ?_
           refine uz_ 36 51 137438953471 ?_
           refine pz_ 37 52 274877906943 ?_
           refine done_ (done_of HT_.out (by kernel_rfl)) ?_
           try go_wp2
           go_ret
           exact ⟨by first | rfl | (simp [errW_none, errW_some] <;> rfl) | (simp [*, errW_none, errW_some] <;> rfl) | (simp [*, Go.Proofs.Ythgeohdpjedhnaa.Gt.nil_bne]; done), by repeat (first | (with_reducible first | exact HB.out | apply below_alloc | apply pw_below_drewN | apply below_drew1 | refine below_set ?_ GE583.out) | exact HB.out)⟩
       ·replace c7 := Bool.eq_false_iff.mpr c7
        subst c7
        have H1 : (some false) = some r := by rw [if_neg (show ¬ (false = true) by decide)] at H; exact H
        clear H
        have H := H1
        clear H1
        obtain rfl := Option.some.inj H
        have p582 : 0 ≤ (x10_1 : Int) := od_
        have q582 : x10_1 < (l0.length : Int) := od_
        obtain ⟨ad582, A582_0, c582_0, A582_1, c582_1, e582, hx582_0, hx582_1, hl582_0, hi582_0, hl582_1, hi582_1⟩ := at_T103 HR0.out x10_1 p582 q582
        cases e582
        replace hx582_0 := kp_ HB hx582_0
        replace hx582_1 := kp_ HB hx582_1
        have HR582_0 := Aside0.mk hi582_0
        have HC582_0 := Aside0.mk hl582_0
        clear hi582_0 hl582_0
        have HR582_1 := Aside0.mk hi582_1
        have HC582_1 := Aside0.mk hl582_1
        clear hi582_1 hl582_1
        replace p582 := eq_true p582
        replace q582 := eq_true q582
        try go_wp2_with (first | ((with_reducible refine gate_dst (N := 4) rfl ?_); (try (refine gate_guard (by rfl) ?_; dsimp only)); refine box_event ?hg (N := 4) ?hd (cs := #[.slice none 0 0, .slice none 0 0]) (t := 103) ?hr ?_; (case hd => rfl); (case hg => rfl); (case hr => first | (go_simp; done) | (go_simp; rfl)); intro gb583 hg w61 hbox hb; have n0_ := Aside0.mk (below_step bl_ hb); have n1_ := Aside0.mk (hbox); have n2_ := Aside0.mk ((by rw [hg]; exact (below_size bl_) : w.heap.size ≤ gb583)); have n3_ := Aside0.mk ((by rw [hg]; exact (below_size bl_) : w.heap.size ≤ gb583)); clear HB; have HB := n0_; have BK583 := n1_; have GW583 := n2_; have GE583 := n3_; clear n0_ n1_ n2_ n3_; clear hb hbox hg; have hcz62_0 : w61.cell? ⟨gb583, 0, none⟩ = some (.slice none 0 0) := (blk_cell BK583.out 0).trans rfl; have hcz62_1 : w61.cell? ⟨gb583, 1, none⟩ = some (.slice none 0 0) := (blk_cell BK583.out 1).trans rfl; have hfz62_0 := blk_frozen BK583.out 0; have hfz62_1 := blk_frozen BK583.out 1))
        have n0_ : Aside0 (((w61.setCell ⟨gb583, 0, none⟩ (.slice A582_0 ((rd_T103 l0 x10_1).f0).length c582_0)).setCell ⟨gb583, 1, none⟩ (.slice A582_1 ((rd_T103 l0 x10_1).f1).length c582_1)).heap[gb583]? = some (.cells #[.slice A582_0 ((rd_T103 l0 x10_1).f0).length c582_0, .slice A582_1 ((rd_T103 l0 x10_1).f1).length c582_1] 103 (0, 0))) := ⟨by (with_reducible repeat (first | refine blk_drewN ?_ _ | refine blk_drew ?_ | refine blk_alloc ?_ _)); refine blk_put (cs := #[.slice A582_0 ((rd_T103 l0 x10_1).f0).length c582_0, .slice none 0 0]) ?_ 1 _ rfl; (with_reducible repeat (first | refine blk_drewN ?_ _ | refine blk_drew ?_ | refine blk_alloc ?_ _)); refine blk_put (cs := #[.slice none 0 0, .slice none 0 0]) ?_ 0 _ rfl; (with_reducible repeat (first | refine blk_drewN ?_ _ | refine blk_drew ?_ | refine blk_alloc ?_ _)); exact BK583.out⟩
        have n1_ : Aside0 (Below w.heap.size w ((w61.setCell ⟨gb583, 0, none⟩ (.slice A582_0 ((rd_T103 l0 x10_1).f0).length c582_0)).setCell ⟨gb583, 1, none⟩ (.slice A582_1 ((rd_T103 l0 x10_1).f1).length c582_1))) := ⟨by repeat (first | (with_reducible first | exact HB.out | apply below_alloc | apply pw_below_drewN | apply below_drew1 | refine below_set ?_ GE583.out) | exact HB.out)⟩
        (try clear BK583)
        (try clear HB)
        generalize ((w61.setCell ⟨gb583, 0, none⟩ (.slice A582_0 ((rd_T103 l0 x10_1).f0).length c582_0)).setCell ⟨gb583, 1, none⟩ (.slice A582_1 ((rd_T103 l0 x10_1).f1).length c582_1)) = w63 at n0_ n1_ ⊢
        have BK583 := n0_
        have HB := n1_
        clear n0_ n1_
        have n0_ := Aside0.mk (blk_drew BK583.out)
        have n1_ := Aside0.mk (below_drew1 HB.out)
        clear BK583
        clear HB
        have BK583 := n0_
        have HB := n1_
        clear n0_ n1_
        refine start_ (n := 38) (S := fun w' => w'.cell? ⟨gb583, 0, none⟩ = some (.slice A582_0 ((rd_T103 l0 x10_1).f0).length c582_0) ∧ w'.cell? ⟨gb583, 1, none⟩ = some (.slice A582_1 ((rd_T103 l0 x10_1).f1).length c582_1)) (ds := []) (bz 38 0) (by kernel_rfl) rfl rfl ⟨(blk_cell BK583.out 0).trans rfl, (blk_cell BK583.out 1).trans rfl⟩ (fun hHeld => ?_); refine with_tabW impl_GoodSeries.tab6 impl_GoodSeries.bits6 (fun HT_ HW_ => ?_)
        generalize w63.drew = w64 at BK583 HB hHeld ⊢
        refine pz_ 0 15 1 ?_
        refine tz_ 1 16 3 ?_
        refine one_ (i := 2) (N := some 17) (bz 38 7) rfl rfl (one_of HT_.out (by kernel_rfl)) (by decide) (fun K hK => ?_)
        refine goes_ Try.func69 (by kernel_rfl) rfl #[.slice A582_0 ((rd_T103 l0 x10_1).f0).length c582_0] (by rfl) rfl rfl (by (try simp only [List.map_toArray, List.map_cons, List.map_nil]); first | done | rfl | (simp only [List.length_drop, List.length_take]; rfl)) ?_
        with_reducible refine (impl_GoodLabels.calls k1 _ _ ((rd_T103 l0 x10_1).f0) false _ ?side1 ?side2 A6.out).mono ?_
        (case side1 => repeat (first | exact (Kd.C_below HR582_0.out HB.out) | (with_reducible refine Kd.C_alloc ?_ _) | (with_reducible refine Kd.C_drewN ?_ _) | (with_reducible refine Kd.C_drew ?_)))
        (case side2 => exact HC582_0.out)
        rintro e w65 ⟨rfl, hb⟩
        refine ⟨_, rfl, ?_⟩
        have n0_ := Aside0.mk (blk_below (g := gb583) (o := .cells #[.slice A582_0 ((rd_T103 l0 x10_1).f0).length c582_0, .slice A582_1 ((rd_T103 l0 x10_1).f1).length c582_1] 103 (0, 0)) (by (with_reducible repeat (first | refine blk_drewN ?_ _ | refine blk_drew ?_ | refine blk_alloc ?_ _)); exact BK583.out) hb)
        have n1_ := Aside0.mk (below_step (by repeat (first | (with_reducible first | exact HB.out | apply below_alloc | apply pw_below_drewN | apply below_drew1 | refine below_set ?_ GE583.out) | exact HB.out)) hb)
        clear BK583
        clear HB
        have BK583 := n0_
        have HB := n1_
        clear n0_ n1_
        (try clear hb)
        (try clear hb2)
        (try clear hk)
        (try clear hi)
        refine hK.out _ _ ⟨(blk_cell BK583.out 0).trans rfl, (blk_cell BK583.out 1).trans rfl⟩ (fun hHeld => ?_)
        clear hK K
        refine norm_ (a' := ?_) ?_ ?_
        rotate_left
        ·show Act.put _ (some 17) _ = _
         simp only [Act.put, List.setIfInBounds_toArray, List.set_cons_zero, List.set_cons_succ, i64_w, i32_w]
         rfl
        refine pz_ 3 18 15 ?_
        refine pz_ 4 19 31 ?_
        refine uz_ 5 20 63 ?_
        refine uz_ 6 21 127 ?_
        refine uz_ 7 22 255 ?_
        refine uz_ 8 23 511 ?_
        refine pz_ 9 24 1023 ?_
        refine pz_ 10 25 2047 ?_
        refine uz_ 11 26 4095 ?_
        refine uz_ 12 27 8191 ?_
        refine uz_ 13 28 16383 ?_
        refine uz_ 14 29 32767 ?_
        refine pz_ 15 30 65535 ?_
        refine pz_ 16 31 131071 ?_
        refine uz_ 17 32 262143 ?_
        refine uz_ 18 33 524287 ?_
        refine uz_ 19 34 1048575 ?_
        refine uz_ 20 35 2097151 ?_
        refine pz_ 21 36 4194303 ?_
        refine pz_ 22 37 8388607 ?_
        refine uz_ 23 38 16777215 ?_
        refine uz_ 24 39 33554431 ?_
        refine uz_ 25 40 67108863 ?_
        refine uz_ 26 41 134217727 ?_
        refine uz_ 27 42 268435455 ?_
        refine uz_ 28 43 536870911 ?_
        refine uz_ 29 44 1073741823 ?_
        refine uz_ 30 45 2147483647 ?_
        refine uz_ 31 46 4294967295 ?_
        refine uz_ 32 47 8589934591 ?_
        refine uz_ 33 48 17179869183 ?_
        refine uz_ 34 49 34359738367 ?_
        refine uz_ 35 50 68719476735 ?_
        refine uz_ 36 51 137438953471 ?_
        refine pz_ 37 52 274877906943 ?_
        refine done_ (done_of HT_.out (by kernel_rfl)) ?_
        try go_wp2
        go_ret
        exact ⟨by first | rfl | (simp [errW_none, errW_some] <;> rfl) | (simp [*, errW_none, errW_some] <;> rfl) | (simp [*, Go.Proofs.Ythgeohdpjedhnaa.Gt.nil_bne]; done), by repeat (first | (with_reducible first | exact HB.out | apply below_alloc | apply pw_below_drewN | apply below_drew1 | refine below_set ?_ GE583.out) | exact HB.out)⟩
      ·rw [if_neg c5] at H
       exact absurd H (by simp)
     ·rw [if_neg c4] at H
      exact absurd H (by simp)
    ·rw [if_neg c3] at H
     have c3b0 : decide (x10_1 < (l0.length : Int)) = false := decide_eq_false c3
     clear c3
     obtain rfl := Option.some.inj H
     go_wp2
     go_ret
     exact ⟨by first | rfl | (simp [errW_none, errW_some] <;> rfl) | (simp [*, errW_none, errW_some] <;> rfl) | (simp [*, Go.Proofs.Ythgeohdpjedhnaa.Gt.nil_bne]; done), bl_⟩

/-! ### laws_eqSample: function 159 -/
def laws_eqSample.f (a0_0 : Int) (a0_1 : Int) (a1_0 : Int) (a1_1 : Int) : Option (Bool) := if a0_0 = a1_0 then (if a0_1 = a1_1 then (some true) else (some false)) else (some false)
set_option maxHeartbeats 8000000 in
set_option maxRecDepth 100000 in
theorem laws_eqSample.calls (a0_0 : Int) (a0_1 : Int) (a1_0 : Int) (a1_1 : Int) (r : Bool) (w : World) (h : laws_eqSample.f a0_0 a0_1 a1_0 a1_1 = some r) :
  Calls Try.prog 159 #[.agg #[.int .i64 a0_0, .int .i64 a0_1], .agg #[.int .i64 a1_0, .int .i64 a1_1]] w fun e w' => e = .returned (.bool r) ∧ Below w.heap.size w w' := by
 have hu115 := Try.underlying115
 have HB := Aside0.mk (Below.refl w.heap.size w)
 have H : (if a0_0 = a1_0 then (if a0_1 = a1_1 then (some true) else (some false)) else (some false)) = some r := h
 clear h
 by_cases c3 : a0_0 = a1_0
 ·rw [if_pos c3] at H
  have c3b0 : (a0_0 == a1_0) = true := beq_iff_eq.mpr c3
  have c3b1 : (a0_0 != a1_0) = false := bne_eq_false_iff_eq.mpr c3
  clear c3
  by_cases c4 : a0_1 = a1_1
  ·rw [if_pos c4] at H
   have c4b0 : (a0_1 == a1_1) = true := beq_iff_eq.mpr c4
   have c4b1 : (a0_1 != a1_1) = false := bne_eq_false_iff_eq.mpr c4
   clear c4
   obtain rfl := Option.some.inj H
   go_enter Try.func159, Try.ntmps159
   go_wp2_with (first | ((with_reducible refine gate_dst (N := 2) rfl ?_); refine box_event ?hg (N := 2) ?hd (cs := #[.int .i64 a0_0, .int .i64 a0_1]) (t := 115) ?hr ?_; (case hd => rfl); (case hg => rfl); (case hr => first | (go_simp; done) | (go_simp; rfl)); intro gb589 hg w5 hbox hb; have n0_ := Aside0.mk (below_step bl_ hb); have n1_ := Aside0.mk (hbox); have n2_ := Aside0.mk ((by rw [hg]; exact (below_size bl_) : w.heap.size ≤ gb589)); have n3_ := Aside0.mk ((by rw [hg]; exact (below_size bl_) : w.heap.size ≤ gb589)); clear HB; have HB := n0_; have BK589 := n1_; have GW589 := n2_; have GE589 := n3_; clear n0_ n1_ n2_ n3_; clear hb hbox hg) | ((with_reducible refine gate_dst (N := 3) rfl ?_); refine box_event ?hg (N := 3) ?hd (cs := #[.int .i64 a1_0, .int .i64 a1_1]) (t := 115) ?hr ?_; (case hd => rfl); (case hg => rfl); (case hr => first | (go_simp; done) | (go_simp; rfl)); intro gb590 hg w6 hbox hb; have n0_ := Aside0.mk (blk_below (g := gb589) (o := .cells #[.int .i64 a0_0, .int .i64 a0_1] 115 (0, 0)) (by (with_reducible repeat (first | refine blk_drewN ?_ _ | refine blk_drew ?_ | refine blk_alloc ?_ _)); exact BK589.out) hb); have n1_ := Aside0.mk (below_step (by repeat (first | (with_reducible first | exact HB.out | apply below_alloc | apply pw_below_drewN | apply below_drew1 | refine below_set ?_ GE589.out) | exact HB.out)) hb); have n2_ := Aside0.mk (hbox); have n3_ := Aside0.mk ((by rw [hg]; exact (below_size (by repeat (first | (with_reducible first | exact HB.out | apply below_alloc | apply pw_below_drewN | apply below_drew1 | refine below_set ?_ GE589.out) | exact HB.out))) : w.heap.size ≤ gb590)); have n4_ := Aside0.mk ((by rw [hg]; exact (below_size (by repeat (first | (with_reducible first | exact HB.out | apply below_alloc | apply pw_below_drewN | apply below_drew1 | refine below_set ?_ GE589.out) | exact HB.out))) : w.heap.size ≤ gb590)); have n5_ := Aside0.mk ((by rw [hg]; exact Nat.ne_of_lt (blk_lt (g := gb589) (o := .cells #[.int .i64 a0_0, .int .i64 a0_1] 115 (0, 0)) (by (with_reducible repeat (first | refine blk_drewN ?_ _ | refine blk_drew ?_ | refine blk_alloc ?_ _)); exact BK589.out)) : gb589 ≠ gb590)); have n6_ := Aside0.mk ((by rw [hg]; exact Nat.ne_of_gt (blk_lt (g := gb589) (o := .cells #[.int .i64 a0_0, .int .i64 a0_1] 115 (0, 0)) (by (with_reducible repeat (first | refine blk_drewN ?_ _ | refine blk_drew ?_ | refine blk_alloc ?_ _)); exact BK589.out)) : gb590 ≠ gb589)); clear BK589; clear HB; have BK589 := n0_; have HB := n1_; have BK590 := n2_; have GW590 := n3_; have GE590 := n4_; have NB589_590 := n5_; have NB590_589 := n6_; clear n0_ n1_ n2_ n3_ n4_ n5_ n6_; clear hb hbox hg; have hnb7 := NB589_590.out; have hnc7 := NB590_589.out; have hcz8_0 : w6.cell? ⟨gb589, 0, none⟩ = some (.int .i64 a0_0) := (blk_cell BK589.out 0).trans rfl; have hcz8_1 : w6.cell? ⟨gb589, 1, none⟩ = some (.int .i64 a0_1) := (blk_cell BK589.out 1).trans rfl; have hfz8_0 := blk_frozen BK589.out 0; have hfz8_1 := blk_frozen BK589.out 1; have hcz9_0 : w6.cell? ⟨gb590, 0, none⟩ = some (.int .i64 a1_0) := (blk_cell BK590.out 0).trans rfl; have hcz9_1 : w6.cell? ⟨gb590, 1, none⟩ = some (.int .i64 a1_1) := (blk_cell BK590.out 1).trans rfl; have hfz9_0 := blk_frozen BK590.out 0; have hfz9_1 := blk_frozen BK590.out 1))
   go_ret
   exact ⟨by first | rfl | (simp [errW_none, errW_some] <;> rfl) | (simp [*, errW_none, errW_some] <;> rfl) | (simp [*, Go.Proofs.Ythgeohdpjedhnaa.Gt.nil_bne]; done), by repeat (first | (with_reducible first | exact HB.out | apply below_alloc | apply pw_below_drewN | apply below_drew1 | refine below_set ?_ GE589.out | refine below_set ?_ GE590.out) | exact HB.out)⟩
  ·rw [if_neg c4] at H
   have c4b0 : (a0_1 == a1_1) = false := beq_eq_false_iff_ne.mpr c4
   have c4b1 : (a0_1 != a1_1) = true := bne_iff_ne.mpr c4
   obtain rfl := Option.some.inj H
   go_enter Try.func159, Try.ntmps159
   go_wp2_with (first | ((with_reducible refine gate_dst (N := 2) rfl ?_); refine box_event ?hg (N := 2) ?hd (cs := #[.int .i64 a0_0, .int .i64 a0_1]) (t := 115) ?hr ?_; (case hd => rfl); (case hg => rfl); (case hr => first | (go_simp; done) | (go_simp; rfl)); intro gb589 hg w10 hbox hb; have n0_ := Aside0.mk (below_step bl_ hb); have n1_ := Aside0.mk (hbox); have n2_ := Aside0.mk ((by rw [hg]; exact (below_size bl_) : w.heap.size ≤ gb589)); have n3_ := Aside0.mk ((by rw [hg]; exact (below_size bl_) : w.heap.size ≤ gb589)); clear HB; have HB := n0_; have BK589 := n1_; have GW589 := n2_; have GE589 := n3_; clear n0_ n1_ n2_ n3_; clear hb hbox hg) | ((with_reducible refine gate_dst (N := 3) rfl ?_); refine box_event ?hg (N := 3) ?hd (cs := #[.int .i64 a1_0, .int .i64 a1_1]) (t := 115) ?hr ?_; (case hd => rfl); (case hg => rfl); (case hr => first | (go_simp; done) | (go_simp; rfl)); intro gb590 hg w11 hbox hb; have n0_ := Aside0.mk (blk_below (g := gb589) (o := .cells #[.int .i64 a0_0, .int .i64 a0_1] 115 (0, 0)) (by (with_reducible repeat (first | refine blk_drewN ?_ _ | refine blk_drew ?_ | refine blk_alloc ?_ _)); exact BK589.out) hb); have n1_ := Aside0.mk (below_step (by repeat (first | (with_reducible first | exact HB.out | apply below_alloc | apply pw_below_drewN | apply below_drew1 | refine below_set ?_ GE589.out) | exact HB.out)) hb); have n2_ := Aside0.mk (hbox); have n3_ := Aside0.mk ((by rw [hg]; exact (below_size (by repeat (first | (with_reducible first | exact HB.out | apply below_alloc | apply pw_below_drewN | apply below_drew1 | refine below_set ?_ GE589.out) | exact HB.out))) : w.heap.size ≤ gb590)); have n4_ := Aside0.mk ((by rw [hg]; exact (below_size (by repeat (first | (with_reducible first | exact HB.out | apply below_alloc | apply pw_below_drewN | apply below_drew1 | refine below_set ?_ GE589.out) | exact HB.out))) : w.heap.size ≤ gb590)); have n5_ := Aside0.mk ((by rw [hg]; exact Nat.ne_of_lt (blk_lt (g := gb589) (o := .cells #[.int .i64 a0_0, .int .i64 a0_1] 115 (0, 0)) (by (with_reducible repeat (first | refine blk_drewN ?_ _ | refine blk_drew ?_ | refine blk_alloc ?_ _)); exact BK589.out)) : gb589 ≠ gb590)); have n6_ := Aside0.mk ((by rw [hg]; exact Nat.ne_of_gt (blk_lt (g := gb589) (o := .cells #[.int .i64 a0_0, .int .i64 a0_1] 115 (0, 0)) (by (with_reducible repeat (first | refine blk_drewN ?_ _ | refine blk_drew ?_ | refine blk_alloc ?_ _)); exact BK589.out)) : gb590 ≠ gb589)); clear BK589; clear HB; have BK589 := n0_; have HB := n1_; have BK590 := n2_; have GW590 := n3_; have GE590 := n4_; have NB589_590 := n5_; have NB590_589 := n6_; clear n0_ n1_ n2_ n3_ n4_ n5_ n6_; clear hb hbox hg; have hnb12 := NB589_590.out; have hnc12 := NB590_589.out; have hcz13_0 : w11.cell? ⟨gb589, 0, none⟩ = some (.int .i64 a0_0) := (blk_cell BK589.out 0).trans rfl; have hcz13_1 : w11.cell? ⟨gb589, 1, none⟩ = some (.int .i64 a0_1) := (blk_cell BK589.out 1).trans rfl; have hfz13_0 := blk_frozen BK589.out 0; have hfz13_1 := blk_frozen BK589.out 1; have hcz14_0 : w11.cell? ⟨gb590, 0, none⟩ = some (.int .i64 a1_0) := (blk_cell BK590.out 0).trans rfl; have hcz14_1 : w11.cell? ⟨gb590, 1, none⟩ = some (.int .i64 a1_1) := (blk_cell BK590.out 1).trans rfl; have hfz14_0 := blk_frozen BK590.out 0; have hfz14_1 := blk_frozen BK590.out 1))
   go_ret
   exact ⟨by first | rfl | (simp [errW_none, errW_some] <;> rfl) | (simp [*, errW_none, errW_some] <;> rfl) | (simp [*, Go.Proofs.Ythgeohdpjedhnaa.Gt.nil_bne]; done), by repeat (first | (with_reducible first | exact HB.out | apply below_alloc | apply pw_below_drewN | apply below_drew1 | refine below_set ?_ GE589.out | refine below_set ?_ GE590.out) | exact HB.out)⟩
 ·rw [if_neg c3] at H
  have c3b0 : (a0_0 == a1_0) = false := beq_eq_false_iff_ne.mpr c3
  have c3b1 : (a0_0 != a1_0) = true := bne_iff_ne.mpr c3
  obtain rfl := Option.some.inj H
  go_enter Try.func159, Try.ntmps159
  go_wp2_with (first | ((with_reducible refine gate_dst (N := 2) rfl ?_); refine box_event ?hg (N := 2) ?hd (cs := #[.int .i64 a0_0, .int .i64 a0_1]) (t := 115) ?hr ?_; (case hd => rfl); (case hg => rfl); (case hr => first | (go_simp; done) | (go_simp; rfl)); intro gb589 hg w15 hbox hb; have n0_ := Aside0.mk (below_step bl_ hb); have n1_ := Aside0.mk (hbox); have n2_ := Aside0.mk ((by rw [hg]; exact (below_size bl_) : w.heap.size ≤ gb589)); have n3_ := Aside0.mk ((by rw [hg]; exact (below_size bl_) : w.heap.size ≤ gb589)); clear HB; have HB := n0_; have BK589 := n1_; have GW589 := n2_; have GE589 := n3_; clear n0_ n1_ n2_ n3_; clear hb hbox hg) | ((with_reducible refine gate_dst (N := 3) rfl ?_); refine box_event ?hg (N := 3) ?hd (cs := #[.int .i64 a1_0, .int .i64 a1_1]) (t := 115) ?hr ?_; (case hd => rfl); (case hg => rfl); (case hr => first | (go_simp; done) | (go_simp; rfl)); intro gb590 hg w16 hbox hb; have n0_ := Aside0.mk (blk_below (g := gb589) (o := .cells #[.int .i64 a0_0, .int .i64 a0_1] 115 (0, 0)) (by (with_reducible repeat (first | refine blk_drewN ?_ _ | refine blk_drew ?_ | refine blk_alloc ?_ _)); exact BK589.out) hb); have n1_ := Aside0.mk (below_step (by repeat (first | (with_reducible first | exact HB.out | apply below_alloc | apply pw_below_drewN | apply below_drew1 | refine below_set ?_ GE589.out) | exact HB.out)) hb); have n2_ := Aside0.mk (hbox); have n3_ := Aside0.mk ((by rw [hg]; exact (below_size (by repeat (first | (with_reducible first | exact HB.out | apply below_alloc | apply pw_below_drewN | apply below_drew1 | refine below_set ?_ GE589.out) | exact HB.out))) : w.heap.size ≤ gb590)); have n4_ := Aside0.mk ((by rw [hg]; exact (below_size (by repeat (first | (with_reducible first | exact HB.out | apply below_alloc | apply pw_below_drewN | apply below_drew1 | refine below_set ?_ GE589.out) | exact HB.out))) : w.heap.size ≤ gb590)); have n5_ := Aside0.mk ((by rw [hg]; exact Nat.ne_of_lt (blk_lt (g := gb589) (o := .cells #[.int .i64 a0_0, .int .i64 a0_1] 115 (0, 0)) (by (with_reducible repeat (first | refine blk_drewN ?_ _ | refine blk_drew ?_ | refine blk_alloc ?_ _)); exact BK589.out)) : gb589 ≠ gb590)); have n6_ := Aside0.mk ((by rw [hg]; exact Nat.ne_of_gt (blk_lt (g := gb589) (o := .cells #[.int .i64 a0_0, .int .i64 a0_1] 115 (0, 0)) (by (with_reducible repeat (first | refine blk_drewN ?_ _ | refine blk_drew ?_ | refine blk_alloc ?_ _)); exact BK589.out)) : gb590 ≠ gb589)); clear BK589; clear HB; have BK589 := n0_; have HB := n1_; have BK590 := n2_; have GW590 := n3_; have GE590 := n4_; have NB589_590 := n5_; have NB590_589 := n6_; clear n0_ n1_ n2_ n3_ n4_ n5_ n6_; clear hb hbox hg; have hnb17 := NB589_590.out; have hnc17 := NB590_589.out; have hcz18_0 : w16.cell? ⟨gb589, 0, none⟩ = some (.int .i64 a0_0) := (blk_cell BK589.out 0).trans rfl; have hcz18_1 : w16.cell? ⟨gb589, 1, none⟩ = some (.int .i64 a0_1) := (blk_cell BK589.out 1).trans rfl; have hfz18_0 := blk_frozen BK589.out 0; have hfz18_1 := blk_frozen BK589.out 1; have hcz19_0 : w16.cell? ⟨gb590, 0, none⟩ = some (.int .i64 a1_0) := (blk_cell BK590.out 0).trans rfl; have hcz19_1 : w16.cell? ⟨gb590, 1, none⟩ = some (.int .i64 a1_1) := (blk_cell BK590.out 1).trans rfl; have hfz19_0 := blk_frozen BK590.out 0; have hfz19_1 := blk_frozen BK590.out 1))
  go_ret
  exact ⟨by first | rfl | (simp [errW_none, errW_some] <;> rfl) | (simp [*, errW_none, errW_some] <;> rfl) | (simp [*, Go.Proofs.Ythgeohdpjedhnaa.Gt.nil_bne]; done), by repeat (first | (with_reducible first | exact HB.out | apply below_alloc | apply pw_below_drewN | apply below_drew1 | refine below_set ?_ GE589.out | refine below_set ?_ GE590.out) | exact HB.out)⟩

/-! ### laws_eqSampleS: function 138 -/
def laws_eqSampleS.l0 : Nat → List (S115) → List (S115) → Int → Option (Bool)
 | 0, _, _, _ => none
 | k + 1, x0, x1, x5 => if x5 < (x0.length : Int) then (if 0 ≤ x5 then (if x5 < (x1.length : Int) then ((laws_eqSample.f ((rd_T115 x0 x5).f0) ((rd_T115 x0 x5).f1) ((rd_T115 x1 x5).f0) ((rd_T115 x1 x5).f1)).bind fun t593 => (if t593 = true then (laws_eqSampleS.l0 k x0 x1 (wrap64 (x5 + 1))) else (some false))) else (none)) else (none)) else (some true)
def laws_eqSampleS.f (k : Nat) (l0 : List (S115)) (l1 : List (S115)) : Option (Bool) := if (l0.length : Int) = (l1.length : Int) then (laws_eqSampleS.l0 k l0 l1 0) else (some false)
theorem laws_eqSampleS.mono_l : ∀ k, (∀ y0 y1 y2, LeO (laws_eqSampleS.l0 k y0 y1 y2) (laws_eqSampleS.l0 (k + 1) y0 y1 y2))
 | 0 => fun _ _ _ r h => by simp [laws_eqSampleS.l0] at h
 | k + 1 => by
  have ih0 := laws_eqSampleS.mono_l k
  ·intro y0 y1 y2
   unfold laws_eqSampleS.l0
   repeat' first
   | (with_reducible exact ih0 _ _ _)
   | (with_reducible exact LeO.refl _)
   | (with_reducible exact LeO.none _)
   | (with_reducible refine LeO.ite ?_ ?_)
   | (with_reducible refine LeO.bind ?_ (fun _ => ?_))
   | exact ih0 _ _ _
   | exact LeO.none _
   | refine LeO.ite ?_ ?_
   | refine LeO.bind ?_ (fun _ => ?_)
theorem laws_eqSampleS.mono : ∀ a0 a1 k, LeO (laws_eqSampleS.f k a0 a1) (laws_eqSampleS.f (k + 1) a0 a1) := by
 intro a0 a1 k
 have ih0 := laws_eqSampleS.mono_l k
 unfold laws_eqSampleS.f
 repeat' first
   | (with_reducible exact ih0 _ _ _)
   | (with_reducible exact LeO.refl _)
   | (with_reducible exact LeO.none _)
   | (with_reducible refine LeO.ite ?_ ?_)
   | (with_reducible refine LeO.bind ?_ (fun _ => ?_))
   | exact ih0 _ _ _
   | exact LeO.none _
   | refine LeO.ite ?_ ?_
   | refine LeO.bind ?_ (fun _ => ?_)
def laws_eqSampleS.T6 : Bool × List (List Nat × List Nat) := (true, [([], []), ([], []), ([0, 1], [0, 1]), ([2], [2]), ([], []), ([], []), ([4, 5], [4, 5]), ([6], [6]), ([3, 7], [3, 7]), ([8], [8])])
def laws_eqSampleS.B6 : List Nat := [0, 0, 3, 7, 0, 0, 48, 112, 255, 511]
theorem laws_eqSampleS.tab6 : rtab .any (opsOf Try.f138 6) = laws_eqSampleS.T6 := by kernel_rfl
theorem laws_eqSampleS.bits6 : waitsOk laws_eqSampleS.T6.2 laws_eqSampleS.B6 = true := by kernel_rfl
set_option maxHeartbeats 8000000 in
set_option maxRecDepth 100000 in
theorem laws_eqSampleS.calls (k : Nat) (A0 : Option Addr) (c0 : Nat) (l0 : List (S115)) (A1 : Option Addr) (c1 : Nat) (l1 : List (S115)) (r : Bool) (w : World) (hr0 : Kd.C k115 w A0 l0.length l0) (hc0 : l0.length ≤ c0) (hr1 : Kd.C k115 w A1 l1.length l1) (hc1 : l1.length ≤ c1) (h : laws_eqSampleS.f k l0 l1 = some r) :
  Calls Try.prog 138 #[.slice A0 l0.length c0, .slice A1 l1.length c1] w fun e w' => e = .returned (.bool r) ∧ Below w.heap.size w w' := by
 have hu115 := Try.underlying115
 have HR0 := Aside0.mk hr0
 have HC0 := Aside0.mk hc0
 clear hr0 hc0
 have HR1 := Aside0.mk hr1
 have HC1 := Aside0.mk hc1
 clear hr1 hc1
 have HB := Aside0.mk (Below.refl w.heap.size w)
 have H : (if (l0.length : Int) = (l1.length : Int) then (laws_eqSampleS.l0 k l0 l1 0) else (some false)) = some r := h
 clear h
 by_cases c3 : (l0.length : Int) = (l1.length : Int)
 ·rw [if_pos c3] at H
  have c3b0 : ((l0.length : Int) == (l1.length : Int)) = true := beq_iff_eq.mpr c3
  have c3b1 : ((l0.length : Int) != (l1.length : Int)) = false := bne_eq_false_iff_eq.mpr c3
  have c3b2 : (l0.length == l1.length) = true := by first | simpa using c3 | (simp at c3 ⊢; omega)
  clear c3
  have H' := Aside0.mk H
  clear H
  go_enter Try.func138, Try.ntmps138
  go_wp2
  go_loopg [5] k (fun kq v5 w' => ∃ (x5_1 : Int), v5 = .int .i64 x5_1 ∧ Aside0 (laws_eqSampleS.l0 kq l0 l1 x5_1 = some r) ∧ Aside0 (kq ≤ k) ∧ Aside0 (Below w.heap.size w w'))
  case atStart => exact ⟨(0), (by first | rfl | (simp; done) | (simp [*]; done)), H', ⟨Nat.le_refl _⟩, ⟨bl_⟩⟩
  case round =>
   clear H'
   try clear c1
   try clear p2
   try clear c3
   try clear c3b0
   try clear c3b1
   try clear c3b2
   obtain ⟨x5_1, rfl, HA, HK1, HB⟩ := hrel
   cases gk with
   | zero => exact absurd HA.out (by simp [laws_eqSampleS.l0])
   | succ k1 =>
    have H := HA.out
    clear HA
    simp only [laws_eqSampleS.l0] at H
    by_cases c4 : x5_1 < (l0.length : Int)
    ·rw [if_pos c4] at H
     have c4b0 : decide (x5_1 < (l0.length : Int)) = true := decide_eq_true c4
     clear c4
     by_cases c5 : 0 ≤ x5_1
     ·rw [if_pos c5] at H
      have c5b0 : decide (0 ≤ x5_1) = true := decide_eq_true c5
      clear c5
      by_cases c6 : x5_1 < (l1.length : Int)
      ·rw [if_pos c6] at H
       have c6b0 : decide (x5_1 < (l1.length : Int)) = true := decide_eq_true c6
       clear c6
       replace H := Option.bind_eq_some_iff.mp H
       obtain ⟨t593, A70, H⟩ := H
       replace H : (if t593 = true then (laws_eqSampleS.l0 k1 l0 l1 (wrap64 (x5_1 + 1))) else (some false)) = some r := H
       have A7 := Aside0.mk A70
       clear A70
       by_cases c8 : t593 = true
       ·subst c8
        have H1 : (laws_eqSampleS.l0 k1 l0 l1 (wrap64 (x5_1 + 1))) = some r := by rw [if_pos rfl] at H; exact H
        clear H
        have H := H1
        clear H1
        have H' := Aside0.mk H
        clear H
        try go_wp2
        have n0_ := Aside0.mk (below_drew1 HB.out)
        clear HB
        have HB := n0_
        clear n0_
        have p591 : 0 ≤ (x5_1 : Int) := od_
        have q591 : x5_1 < (l0.length : Int) := od_
        obtain ⟨ad591, e591, hx591_0, hx591_1⟩ := at_T115 HR0.out x5_1 p591 q591
        have hw591_1 := hx591_1
        have hw591_0 := hx591_0
        cases e591
        replace hx591_0 := kp_ HB hx591_0
        replace hx591_1 := kp_ HB hx591_1
        replace p591 := eq_true p591
        replace q591 := eq_true q591
        have p592 : 0 ≤ (x5_1 : Int) := od_
        have q592 : x5_1 < (l1.length : Int) := od_
        obtain ⟨ad592, e592, hx592_0, hx592_1⟩ := at_T115 HR1.out x5_1 p592 q592
        have hw592_1 := hx592_1
        have hw592_0 := hx592_0
        cases e592
        replace hx592_0 := kp_ HB hx592_0
        replace hx592_1 := kp_ HB hx592_1
        replace p592 := eq_true p592
        replace q592 := eq_true q592
        refine start_ (n := 10) (S := fun w' => w'.cell? (ad591.add ((x5_1).toNat * 2)) = some (.int .i64 ((rd_T115 l0 x5_1).f0)) ∧ w'.cell? ⟨(ad591.add ((x5_1).toNat * 2)).block, (ad591.add ((x5_1).toNat * 2)).off + 1, none⟩ = some (.int .i64 ((rd_T115 l0 x5_1).f1)) ∧ w'.cell? (ad592.add ((x5_1).toNat * 2)) = some (.int .i64 ((rd_T115 l1 x5_1).f0)) ∧ w'.cell? ⟨(ad592.add ((x5_1).toNat * 2)).block, (ad592.add ((x5_1).toNat * 2)).off + 1, none⟩ = some (.int .i64 ((rd_T115 l1 x5_1).f1))) (ds := []) (bz 10 0) (by kernel_rfl) rfl rfl ⟨(kp_ HB hw591_0 :), (kp_ HB hw591_1 :), (kp_ HB hw592_0 :), (kp_ HB hw592_1 :)⟩ (fun hHeld => ?_); refine with_tabW laws_eqSampleS.tab6 laws_eqSampleS.bits6 (fun HT_ HW_ => ?_)
        generalize wr.drew = w9 at HB hx591_0 hx591_1 hx592_0 hx592_1 hHeld ⊢
        refine pz_ 0 17 1 ?_
        refine pz_ 1 18 3 ?_
        refine pz_ 2 19 7 ?_
        refine pz_ 4 21 23 ?_
        refine pz_ 5 22 55 ?_
        refine pz_ 6 23 119 ?_
        refine tz_ 3 20 127 ?_
        refine tz_ 7 24 255 ?_
        refine one_ (i := 8) (N := some 25) (bz 10 511) rfl rfl (one_of HT_.out (by kernel_rfl)) (by decide) (fun K hK => ?_)
        refine goes_ Try.func159 (by kernel_rfl) rfl #[.agg #[.int .i64 ((rd_T115 l0 x5_1).f0), .int .i64 ((rd_T115 l0 x5_1).f1)], .agg #[.int .i64 ((rd_T115 l1 x5_1).f0), .int .i64 ((rd_T115 l1 x5_1).f1)]] (by rfl) rfl rfl (by (try simp only [List.map_toArray, List.map_cons, List.map_nil]); first | done | rfl | (simp only [List.length_drop, List.length_take]; rfl)) ?_
        with_reducible refine (laws_eqSample.calls ((rd_T115 l0 x5_1).f0) ((rd_T115 l0 x5_1).f1) ((rd_T115 l1 x5_1).f0) ((rd_T115 l1 x5_1).f1) true _ A7.out).mono ?_
        rintro e w10 ⟨rfl, hb⟩
        refine ⟨_, rfl, ?_⟩
        have n0_ := Aside0.mk (below_step bl_ hb)
        clear HB
        have HB := n0_
        clear n0_
        (try clear hb)
        (try clear hb2)
        (try clear hk)
        (try clear hi)
        refine hK.out _ _ ⟨(kp_ HB hw591_0 :), (kp_ HB hw591_1 :), (kp_ HB hw592_0 :), (kp_ HB hw592_1 :)⟩ (fun hHeld => ?_)
        clear hK K
        refine norm_ (a' := ?_) ?_ ?_
        rotate_left
        ·show Act.put _ (some 25) _ = _
         simp only [Act.put, List.setIfInBounds_toArray, List.set_cons_zero, List.set_cons_succ, i64_w, i32_w]
         rfl
        refine pz_ 9 26 1023 ?_
        refine done_ (done_of HT_.out (by kernel_rfl)) ?_
        try go_wp2
        go_roundg k1
        case measure => have := HK1.out; omega
        case rel => exact ⟨(wrap64 (x5_1 + 1)), (by first | rfl | (simp; done) | (simp [*]; done)), H', ⟨by have := HK1.out; omega⟩, ⟨bl_⟩⟩
       ·replace c8 := Bool.eq_false_iff.mpr c8
        subst c8
        have H1 : (some false) = some r := by rw [if_neg (show ¬ (false = true) by decide)] at H; exact H
        clear H
        have H := H1
        clear H1
        obtain rfl := Option.some.inj H
        try go_wp2
        have n0_ := Aside0.mk (below_drew1 HB.out)
        clear HB
        have HB := n0_
        clear n0_
        have p591 : 0 ≤ (x5_1 : Int) := od_
        have q591 : x5_1 < (l0.length : Int) := od_
        obtain ⟨ad591, e591, hx591_0, hx591_1⟩ := at_T115 HR0.out x5_1 p591 q591
        have hw591_1 := hx591_1
        have hw591_0 := hx591_0
        cases e591
        replace hx591_0 := kp_ HB hx591_0
        replace hx591_1 := kp_ HB hx591_1
        replace p591 := eq_true p591
        replace q591 := eq_true q591
        have p592 : 0 ≤ (x5_1 : Int) := od_
        have q592 : x5_1 < (l1.length : Int) := od_
        obtain ⟨ad592, e592, hx592_0, hx592_1⟩ := at_T115 HR1.out x5_1 p592 q592
        have hw592_1 := hx592_1
        have hw592_0 := hx592_0
        cases e592
        replace hx592_0 := kp_ HB hx592_0
        replace hx592_1 := kp_ HB hx592_1
        replace p592 := eq_true p592
        replace q592 := eq_true q592
        refine start_ (n := 10) (S := fun w' => w'.cell? (ad591.add ((x5_1).toNat * 2)) = some (.int .i64 ((rd_T115 l0 x5_1).f0)) ∧ w'.cell? ⟨(ad591.add ((x5_1).toNat * 2)).block, (ad591.add ((x5_1).toNat * 2)).off + 1, none⟩ = some (.int .i64 ((rd_T115 l0 x5_1).f1)) ∧ w'.cell? (ad592.add ((x5_1).toNat * 2)) = some (.int .i64 ((rd_T115 l1 x5_1).f0)) ∧ w'.cell? ⟨(ad592.add ((x5_1).toNat * 2)).block, (ad592.add ((x5_1).toNat * 2)).off + 1, none⟩ = some (.int .i64 ((rd_T115 l1 x5_1).f1))) (ds := []) (bz 10 0) (by kernel_rfl) rfl rfl ⟨(kp_ HB hw591_0 :), (kp_ HB hw591_1 :), (kp_ HB hw592_0 :), (kp_ HB hw592_1 :)⟩ (fun hHeld => ?_); refine with_tabW laws_eqSampleS.tab6 laws_eqSampleS.bits6 (fun HT_ HW_ => ?_)
        generalize wr.drew = w11 at HB hx591_0 hx591_1 hx592_0 hx592_1 hHeld ⊢
        refine pz_ 0 17 1 ?_
        refine pz_ 1 18 3 ?_
        refine pz_ 2 19 7 ?_
        refine pz_ 4 21 23 ?_
        refine pz_ 5 22 55 ?_
        refine pz_ 6 23 119 ?_
        refine tz_ 3 20 127 ?_
        refine tz_ 7 24 255 ?_
        refine one_ (i := 8) (N := some 25) (bz 10 511) rfl rfl (one_of HT_.out (by kernel_rfl)) (by decide) (fun K hK => ?_)
        refine goes_ Try.func159 (by kernel_rfl) rfl #[.agg #[.int .i64 ((rd_T115 l0 x5_1).f0), .int .i64 ((rd_T115 l0 x5_1).f1)], .agg #[.int .i64 ((rd_T115 l1 x5_1).f0), .int .i64 ((rd_T115 l1 x5_1).f1)]] (by rfl) rfl rfl (by (try simp only [List.map_toArray, List.map_cons, List.map_nil]); first | done | rfl | (simp only [List.length_drop, List.length_take]; rfl)) ?_
        with_reducible refine (laws_eqSample.calls ((rd_T115 l0 x5_1).f0) ((rd_T115 l0 x5_1).f1) ((rd_T115 l1 x5_1).f0) ((rd_T115 l1 x5_1).f1) false _ A7.out).mono ?_
        rintro e w12 ⟨rfl, hb⟩
        refine ⟨_, rfl, ?_⟩
        have n0_ := Aside0.mk (below_step bl_ hb)
        clear HB
        have HB := n0_
        clear n0_
        (try clear hb)
        (try clear hb2)
        (try clear hk)
        (try clear hi)
        refine hK.out _ _ ⟨(kp_ HB hw591_0 :), (kp_ HB hw591_1 :), (kp_ HB hw592_0 :), (kp_ HB hw592_1 :)⟩ (fun hHeld => ?_)
        clear hK K
        refine norm_ (a' := ?_) ?_ ?_
        rotate_left
        ·show Act.put _ (some 25) _ = _
         simp only [Act.put, List.setIfInBounds_toArray, List.set_cons_zero, List.set_cons_succ, i64_w, i32_w]
         rfl
        refine pz_ 9 26 1023 ?_
        refine done_ (done_of HT_.out (by kernel_rfl)) ?_
        try go_wp2
        go_ret
        exact ⟨by first | rfl | (simp [errW_none, errW_some] <;> rfl) | (simp [*, errW_none, errW_some] <;> rfl) | (simp [*, Go.Proofs.Ythgeohdpjedhnaa.Gt.nil_bne]; done), bl_⟩
      ·rw [if_neg c6] at H
       exact absurd H (by simp)
     ·rw [if_neg c5] at H
      exact absurd H (by simp)
    ·rw [if_neg c4] at H
     have c4b0 : decide (x5_1 < (l0.length : Int)) = false := decide_eq_false c4
     clear c4
     obtain rfl := Option.some.inj H
     go_wp2
     go_ret
     exact ⟨by first | rfl | (simp [errW_none, errW_some] <;> rfl) | (simp [*, errW_none, errW_some] <;> rfl) | (simp [*, Go.Proofs.Ythgeohdpjedhnaa.Gt.nil_bne]; done), bl_⟩
 ·rw [if_neg c3] at H
  have c3b0 : ((l0.length : Int) == (l1.length : Int)) = false := beq_eq_false_iff_ne.mpr c3
  have c3b1 : ((l0.length : Int) != (l1.length : Int)) = true := bne_iff_ne.mpr c3
  have c3b2 : (l0.length == l1.length) = false := by first | simpa using c3 | (simp at c3 ⊢; omega)
  obtain rfl := Option.some.inj H
  go_enter Try.func138, Try.ntmps138
  go_wp2
  go_ret
  exact ⟨by first | rfl | (simp [errW_none, errW_some] <;> rfl) | (simp [*, errW_none, errW_some] <;> rfl) | (simp [*, Go.Proofs.Ythgeohdpjedhnaa.Gt.nil_bne]; done), bl_⟩

end Go.Proofs.Ythgeohdpjedhnaa.Pr
