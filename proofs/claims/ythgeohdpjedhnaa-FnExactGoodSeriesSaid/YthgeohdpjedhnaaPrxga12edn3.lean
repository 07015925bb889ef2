/- Functions of the given program as plain Lean functions, and that the machine's calls come to them; written by a program of this session; no condition but those that each theorem states. -/
import Derived.Test.YthgeohdpjedhnaaPrx0
import Derived.Test.YthgeohdpjedhnaaPrxga12edn2
namespace Go.Proofs.Ythgeohdpjedhnaa.Pr
open Go.RowKit Go.Proofs.YthgeohdpjedhnaaW.PrintWords Go.Proofs.YthgeohdpjedhnaaW.PrintLast Go.Proofs.YthgeohdpjedhnaaW.PrintMore
attribute [local go_sem] max2_int min2_int max_two min_two max_three min_three max_four min_four   -- for this text's walks alone
set_option linter.unusedVariables false
set_option linter.unusedSimpArgs false

/-! ### impl_GoodSamples: function 96 -/
def impl_GoodSamples.l0 : Nat → List (S115) → List (S115) → Int → Int → Option (Bool)
 | 0, _, _, _, _ => none
 | k + 1, x0, x8, x9, x10 => if x10 < x9 then (if 0 ≤ x10 then (if x10 < (x8.length : Int) then ((impl_isTime.f ((rd_T115 x8 x10).f0)).bind fun t564 => (if t564 = true then (if x10 > 0 then (if 0 ≤ (wrap64 (x10 - 1)) then (if (wrap64 (x10 - 1)) < (x0.length : Int) then (if ((rd_T115 x0 (wrap64 (x10 - 1))).f0) ≥ ((rd_T115 x8 x10).f0) then (some false) else (impl_GoodSamples.l0 k x0 x8 x9 (wrap64 (x10 + 1)))) else (none)) else (none)) else (impl_GoodSamples.l0 k x0 x8 x9 (wrap64 (x10 + 1)))) else (some false))) else (none)) else (none)) else (some true)
def impl_GoodSamples.f (k : Nat) (l0 : List (S115)) : Option (Bool) := if (l0.length : Int) > 2000 then (some false) else (impl_GoodSamples.l0 k l0 l0 (l0.length : Int) 0)
theorem impl_GoodSamples.mono_l : ∀ k, (∀ y0 y1 y2 y3, LeO (impl_GoodSamples.l0 k y0 y1 y2 y3) (impl_GoodSamples.l0 (k + 1) y0 y1 y2 y3))
 | 0 => fun _ _ _ _ r h => by simp [impl_GoodSamples.l0] at h
 | k + 1 => by
  have ih0 := impl_GoodSamples.mono_l k
  ·intro y0 y1 y2 y3
   unfold impl_GoodSamples.l0
   repeat' first
   | (with_reducible exact ih0 _ _ _ _)
   | (with_reducible exact LeO.refl _)
   | (with_reducible exact LeO.none _)
   | (with_reducible refine LeO.ite ?_ ?_)
   | (with_reducible refine LeO.bind ?_ (fun _ => ?_))
   | exact ih0 _ _ _ _
   | exact LeO.none _
   | refine LeO.ite ?_ ?_
   | refine LeO.bind ?_ (fun _ => ?_)
theorem impl_GoodSamples.mono : ∀ a0 k, LeO (impl_GoodSamples.f k a0) (impl_GoodSamples.f (k + 1) a0) := by
 intro a0 k
 have ih0 := impl_GoodSamples.mono_l k
 unfold impl_GoodSamples.f
 repeat' first
   | (with_reducible exact ih0 _ _ _ _)
   | (with_reducible exact LeO.refl _)
   | (with_reducible exact LeO.none _)
   | (with_reducible refine LeO.ite ?_ ?_)
   | (with_reducible refine LeO.bind ?_ (fun _ => ?_))
   | exact ih0 _ _ _ _
   | exact LeO.none _
   | refine LeO.ite ?_ ?_
   | refine LeO.bind ?_ (fun _ => ?_)
set_option maxHeartbeats 8000000 in
set_option maxRecDepth 100000 in
theorem impl_GoodSamples.calls (k : Nat) (A0 : Option Addr) (c0 : Nat) (l0 : List (S115)) (r : Bool) (w : World) (hr0 : Kd.C k115 w A0 l0.length l0) (hc0 : l0.length ≤ c0) (h : impl_GoodSamples.f k l0 = some r) :
  Calls Try.prog 96 #[.slice A0 l0.length c0] w fun e w' => e = .returned (.bool r) ∧ Below w.heap.size w w' := by
 have hu115 := Try.underlying115
 have HR0 := Aside0.mk hr0
 have HC0 := Aside0.mk hc0
 clear hr0 hc0
 have HB := Aside0.mk (Below.refl w.heap.size w)
 have H : (if (l0.length : Int) > 2000 then (some false) else (impl_GoodSamples.l0 k l0 l0 (l0.length : Int) 0)) = some r := h
 clear h
 by_cases c2 : (l0.length : Int) > 2000
 ·rw [if_pos c2] at H
  have c2b0 : decide (2000 < (l0.length : Int)) = true := decide_eq_true c2
  have c2b1 : decide (2000 < l0.length) = true := decide_eq_true (by omega)
  clear c2
  obtain rfl := Option.some.inj H
  go_enter Try.func96, Try.ntmps96
  go_wp2
  repeat (go_quiet (fail); try go_wp2)
  go_ret
  exact ⟨by first | rfl | (simp [errW_none, errW_some] <;> rfl) | (simp [*, errW_none, errW_some] <;> rfl) | (simp [*, Go.Proofs.Ythgeohdpjedhnaa.Gt.nil_bne]; done), bl_⟩
 ·rw [if_neg c2] at H
  have c2b0 : decide (2000 < (l0.length : Int)) = false := decide_eq_false c2
  have c2b1 : decide (2000 < l0.length) = false := decide_eq_false (by omega)
  clear c2
  have H' := Aside0.mk H
  clear H
  go_enter Try.func96, Try.ntmps96
  go_wp2
  repeat (go_quiet (fail); try go_wp2)
  go_loopg [10] k (fun kq v10 w' => ∃ (x10_1 : Int), v10 = .int .i64 x10_1 ∧ Aside0 (impl_GoodSamples.l0 kq l0 l0 (l0.length : Int) x10_1 = some r) ∧ Aside0 (kq ≤ k) ∧ Aside0 (Below w.heap.size w w'))
  case atStart => exact ⟨(0), (by first | rfl | (simp; done) | (simp [*]; done)), H', ⟨Nat.le_refl _⟩, ⟨bl_⟩⟩
  case round =>
   clear H'
   try clear c2
   try clear c2b0
   try clear c2b1
   try clear p2
   obtain ⟨x10_1, rfl, HA, HK1, HB⟩ := hrel
   cases gk with
   | zero => exact absurd HA.out (by simp [impl_GoodSamples.l0])
   | succ k1 =>
    have H := HA.out
    clear HA
    simp only [impl_GoodSamples.l0] at H
    by_cases c3 : x10_1 < (l0.length : Int)
    ·rw [if_pos c3] at H
     have c3b0 : decide (x10_1 < (l0.length : Int)) = true := decide_eq_true c3
     clear c3
     by_cases c4 : 0 ≤ x10_1
     ·rw [if_pos c4] at H
      have c4b0 : decide (0 ≤ x10_1) = true := decide_eq_true c4
      clear c4
      by_cases c5 : x10_1 < (l0.length : Int)
      ·rw [if_pos c5] at H
       have c5b0 : decide (x10_1 < (l0.length : Int)) = true := decide_eq_true c5
       clear c5
       replace H := Option.bind_eq_some_iff.mp H
       obtain ⟨t564, A60, H⟩ := H
       replace H : (if t564 = true then (if x10_1 > 0 then (if 0 ≤ (wrap64 (x10_1 - 1)) then (if (wrap64 (x10_1 - 1)) < (l0.length : Int) then (if ((rd_T115 l0 (wrap64 (x10_1 - 1))).f0) ≥ ((rd_T115 l0 x10_1).f0) then (some false) else (impl_GoodSamples.l0 k1 l0 l0 (l0.length : Int) (wrap64 (x10_1 + 1)))) else (none)) else (none)) else (impl_GoodSamples.l0 k1 l0 l0 (l0.length : Int) (wrap64 (x10_1 + 1)))) else (some false)) = some r := H
       have A6 := Aside0.mk A60
       clear A60
       by_cases c7 : t564 = true
       ·subst c7
        have H1 : (if x10_1 > 0 then (if 0 ≤ (wrap64 (x10_1 - 1)) then (if (wrap64 (x10_1 - 1)) < (l0.length : Int) then (if ((rd_T115 l0 (wrap64 (x10_1 - 1))).f0) ≥ ((rd_T115 l0 x10_1).f0) then (some false) else (impl_GoodSamples.l0 k1 l0 l0 (l0.length : Int) (wrap64 (x10_1 + 1)))) else (none)) else (none)) else (impl_GoodSamples.l0 k1 l0 l0 (l0.length : Int) (wrap64 (x10_1 + 1)))) = some r := by rw [if_pos rfl] at H; exact H
        clear H
        have H := H1
        clear H1
        by_cases c8 : x10_1 > 0
        ·rw [if_pos c8] at H
         have c8b0 : decide (0 < x10_1) = true := decide_eq_true c8
         clear c8
         obtain ⟨ji9, hji9⟩ : ∃ j_ : Int, (wrap64 (x10_1 - 1)) = j_ := ⟨_, rfl⟩
         replace H : (if 0 ≤ (ji9) then (if (ji9) < (l0.length : Int) then (if ((rd_T115 l0 (ji9)).f0) ≥ ((rd_T115 l0 x10_1).f0) then (some false) else (impl_GoodSamples.l0 k1 l0 l0 (l0.length : Int) (wrap64 (x10_1 + 1)))) else (none)) else (none)) = some r := by first | (rw [hji9] at H; exact H) | (simp only [hji9] at H ⊢; exact H)
         (try rw [hji9] at A6)
         have hji9w : (IntKind.i64.wrap (x10_1 - 1)) = ji9 := (i64_w _).trans hji9
         by_cases c10 : 0 ≤ (ji9)
         ·rw [if_pos c10] at H
          have c10b0 : decide (0 ≤ (ji9)) = true := decide_eq_true c10
          clear c10
          by_cases c11 : (ji9) < (l0.length : Int)
          ·rw [if_pos c11] at H
           have c11b0 : decide ((ji9) < (l0.length : Int)) = true := decide_eq_true c11
           clear c11
           by_cases c12 : ((rd_T115 l0 (ji9)).f0) ≥ ((rd_T115 l0 x10_1).f0)
           ·rw [if_pos c12] at H
            have c12b0 : decide (((rd_T115 l0 x10_1).f0) ≤ ((rd_T115 l0 (ji9)).f0)) = true := decide_eq_true c12
            clear c12
            obtain rfl := Option.some.inj H
            have p562 : 0 ≤ (x10_1 : Int) := od_
            have q562 : x10_1 < (l0.length : Int) := od_
            obtain ⟨ad562, e562, hx562_0, hx562_1⟩ := at_T115 HR0.out x10_1 p562 q562
            cases e562
            replace hx562_0 := kp_ HB hx562_0
            replace hx562_1 := kp_ HB hx562_1
            replace p562 := eq_true p562
            replace q562 := eq_true q562
            go_wp2_with (first | ((with_reducible refine gate_dst (N := 4) rfl ?_); refine box_event ?hg (N := 4) ?hd (cs := #[.int .i64 0, .int .i64 0]) (t := 115) ?hr ?_; (case hd => rfl); (case hg => rfl); (case hr => first | (go_simp; done) | (go_simp; rfl)); intro gb563 hg w13 hbox hb; have n0_ := Aside0.mk (below_step bl_ hb); have n1_ := Aside0.mk (hbox); have n2_ := Aside0.mk ((by rw [hg]; exact (below_size bl_) : w.heap.size ≤ gb563)); have n3_ := Aside0.mk ((by rw [hg]; exact (below_size bl_) : w.heap.size ≤ gb563)); clear HB; have HB := n0_; have BK563 := n1_; have GW563 := n2_; have GE563 := n3_; clear n0_ n1_ n2_ n3_; clear hb hbox hg; have hcz14_0 : w13.cell? ⟨gb563, 0, none⟩ = some (.int .i64 0) := (blk_cell BK563.out 0).trans rfl; have hcz14_1 : w13.cell? ⟨gb563, 1, none⟩ = some (.int .i64 0) := (blk_cell BK563.out 1).trans rfl; have hfz14_0 := blk_frozen BK563.out 0; have hfz14_1 := blk_frozen BK563.out 1) | (go_at_call 103; (with_reducible refine (impl_isTime.calls ((rd_T115 l0 x10_1).f0) true _ A6.out).mono ?_); rintro e w' ⟨rfl, ⟨nd, rfl⟩⟩; (try exact dd_); have p565 : 0 ≤ ((ji9) : Int) := od_; have q565 : (ji9) < (l0.length : Int) := od_; obtain ⟨ad565, e565, hx565_0, hx565_1⟩ := at_T115 HR0.out (ji9) p565 q565; obtain rfl : ad562 = ad565 := (by injection e565); have hn565_0 : ad562.block ≠ gb563 := Nat.ne_of_lt (Nat.lt_of_lt_of_le (by have := World.block_lt_of_cell? _ _ hx565_0; first | rwa [add_block] at this | exact this) GW563.out); have hn565_1 : ad562.block ≠ gb563 := Nat.ne_of_lt (Nat.lt_of_lt_of_le (by have := World.block_lt_of_cell? _ _ hx565_0; first | rwa [add_block] at this | exact this) GW563.out); replace hx565_0 := kp_ HB hx565_0; replace hx565_1 := kp_ HB hx565_1; replace hx565_0 := (cell_far (p := ⟨gb563, 0, none⟩) (by first | (rw [add_block]; exact hn565_0) | (show (Addr.add _ _).block ≠ _; rw [add_block]; exact hn565_0) | exact hn565_0) (.int .i64 ((rd_T115 l0 x10_1).f0))).trans hx565_0; replace hx565_1 := (cell_far (p := ⟨gb563, 0, none⟩) (by first | (rw [add_block]; exact hn565_0) | (show (Addr.add _ _).block ≠ _; rw [add_block]; exact hn565_0) | exact hn565_0) (.int .i64 ((rd_T115 l0 x10_1).f0))).trans hx565_1; replace hx565_0 := (cell_far (p := ⟨gb563, 1, none⟩) (by first | (rw [add_block]; exact hn565_1) | (show (Addr.add _ _).block ≠ _; rw [add_block]; exact hn565_1) | exact hn565_1) (.int .i64 ((rd_T115 l0 x10_1).f1))).trans hx565_0; replace hx565_1 := (cell_far (p := ⟨gb563, 1, none⟩) (by first | (rw [add_block]; exact hn565_1) | (show (Addr.add _ _).block ≠ _; rw [add_block]; exact hn565_1) | exact hn565_1) (.int .i64 ((rd_T115 l0 x10_1).f1))).trans hx565_1; (try have hy565_0 := fun (n_ : Nat) => (show ((((w13.drewN n_).setCell ⟨gb563, 0, none⟩ (.int .i64 ((rd_T115 l0 x10_1).f0))).setCell ⟨gb563, 1, none⟩ (.int .i64 ((rd_T115 l0 x10_1).f1)))).cell? _ = some _ from hx565_0)); (try have hy565_1 := fun (n_ : Nat) => (show ((((w13.drewN n_).setCell ⟨gb563, 0, none⟩ (.int .i64 ((rd_T115 l0 x10_1).f0))).setCell ⟨gb563, 1, none⟩ (.int .i64 ((rd_T115 l0 x10_1).f1)))).cell? _ = some _ from hx565_1)); clear hn565_0; clear hn565_1; replace p565 := eq_true p565; replace q565 := eq_true q565))
            repeat (go_quiet (first | ((with_reducible refine gate_dst (N := 4) rfl ?_); refine box_event ?hg (N := 4) ?hd (cs := #[.int .i64 0, .int .i64 0]) (t := 115) ?hr ?_; (case hd => rfl); (case hg => rfl); (case hr => first | (go_simp; done) | (go_simp; rfl)); intro gb563 hg w13 hbox hb; have n0_ := Aside0.mk (below_step bl_ hb); have n1_ := Aside0.mk (hbox); have n2_ := Aside0.mk ((by rw [hg]; exact (below_size bl_) : w.heap.size ≤ gb563)); have n3_ := Aside0.mk ((by rw [hg]; exact (below_size bl_) : w.heap.size ≤ gb563)); clear HB; have HB := n0_; have BK563 := n1_; have GW563 := n2_; have GE563 := n3_; clear n0_ n1_ n2_ n3_; clear hb hbox hg; have hcz14_0 : w13.cell? ⟨gb563, 0, none⟩ = some (.int .i64 0) := (blk_cell BK563.out 0).trans rfl; have hcz14_1 : w13.cell? ⟨gb563, 1, none⟩ = some (.int .i64 0) := (blk_cell BK563.out 1).trans rfl; have hfz14_0 := blk_frozen BK563.out 0; have hfz14_1 := blk_frozen BK563.out 1) | (go_at_call 103; (with_reducible refine (impl_isTime.calls ((rd_T115 l0 x10_1).f0) true _ A6.out).mono ?_); rintro e w' ⟨rfl, ⟨nd, rfl⟩⟩; (try exact dd_); have p565 : 0 ≤ ((ji9) : Int) := od_; have q565 : (ji9) < (l0.length : Int) := od_; obtain ⟨ad565, e565, hx565_0, hx565_1⟩ := at_T115 HR0.out (ji9) p565 q565; obtain rfl : ad562 = ad565 := (by injection e565); have hn565_0 : ad562.block ≠ gb563 := Nat.ne_of_lt (Nat.lt_of_lt_of_le (by have := World.block_lt_of_cell? _ _ hx565_0; first | rwa [add_block] at this | exact this) GW563.out); have hn565_1 : ad562.block ≠ gb563 := Nat.ne_of_lt (Nat.lt_of_lt_of_le (by have := World.block_lt_of_cell? _ _ hx565_0; first | rwa [add_block] at this | exact this) GW563.out); replace hx565_0 := kp_ HB hx565_0; replace hx565_1 := kp_ HB hx565_1; replace hx565_0 := (cell_far (p := ⟨gb563, 0, none⟩) (by first | (rw [add_block]; exact hn565_0) | (show (Addr.add _ _).block ≠ _; rw [add_block]; exact hn565_0) | exact hn565_0) (.int .i64 ((rd_T115 l0 x10_1).f0))).trans hx565_0; replace hx565_1 := (cell_far (p := ⟨gb563, 0, none⟩) (by first | (rw [add_block]; exact hn565_0) | (show (Addr.add _ _).block ≠ _; rw [add_block]; exact hn565_0) | exact hn565_0) (.int .i64 ((rd_T115 l0 x10_1).f0))).trans hx565_1; replace hx565_0 := (cell_far (p := ⟨gb563, 1, none⟩) (by first | (rw [add_block]; exact hn565_1) | (show (Addr.add _ _).block ≠ _; rw [add_block]; exact hn565_1) | exact hn565_1) (.int .i64 ((rd_T115 l0 x10_1).f1))).trans hx565_0; replace hx565_1 := (cell_far (p := ⟨gb563, 1, none⟩) (by first | (rw [add_block]; exact hn565_1) | (show (Addr.add _ _).block ≠ _; rw [add_block]; exact hn565_1) | exact hn565_1) (.int .i64 ((rd_T115 l0 x10_1).f1))).trans hx565_1; (try have hy565_0 := fun (n_ : Nat) => (show ((((w13.drewN n_).setCell ⟨gb563, 0, none⟩ (.int .i64 ((rd_T115 l0 x10_1).f0))).setCell ⟨gb563, 1, none⟩ (.int .i64 ((rd_T115 l0 x10_1).f1)))).cell? _ = some _ from hx565_0)); (try have hy565_1 := fun (n_ : Nat) => (show ((((w13.drewN n_).setCell ⟨gb563, 0, none⟩ (.int .i64 ((rd_T115 l0 x10_1).f0))).setCell ⟨gb563, 1, none⟩ (.int .i64 ((rd_T115 l0 x10_1).f1)))).cell? _ = some _ from hx565_1)); clear hn565_0; clear hn565_1; replace p565 := eq_true p565; replace q565 := eq_true q565)); try go_wp2_with (first | ((with_reducible refine gate_dst (N := 4) rfl ?_); refine box_event ?hg (N := 4) ?hd (cs := #[.int .i64 0, .int .i64 0]) (t := 115) ?hr ?_; (case hd => rfl); (case hg => rfl); (case hr => first | (go_simp; done) | (go_simp; rfl)); intro gb563 hg w13 hbox hb; have n0_ := Aside0.mk (below_step bl_ hb); have n1_ := Aside0.mk (hbox); have n2_ := Aside0.mk ((by rw [hg]; exact (below_size bl_) : w.heap.size ≤ gb563)); have n3_ := Aside0.mk ((by rw [hg]; exact (below_size bl_) : w.heap.size ≤ gb563)); clear HB; have HB := n0_; have BK563 := n1_; have GW563 := n2_; have GE563 := n3_; clear n0_ n1_ n2_ n3_; clear hb hbox hg; have hcz14_0 : w13.cell? ⟨gb563, 0, none⟩ = some (.int .i64 0) := (blk_cell BK563.out 0).trans rfl; have hcz14_1 : w13.cell? ⟨gb563, 1, none⟩ = some (.int .i64 0) := (blk_cell BK563.out 1).trans rfl; have hfz14_0 := blk_frozen BK563.out 0; have hfz14_1 := blk_frozen BK563.out 1) | (go_at_call 103; (with_reducible refine (impl_isTime.calls ((rd_T115 l0 x10_1).f0) true _ A6.out).mono ?_); rintro e w' ⟨rfl, ⟨nd, rfl⟩⟩; (try exact dd_); have p565 : 0 ≤ ((ji9) : Int) := od_; have q565 : (ji9) < (l0.length : Int) := od_; obtain ⟨ad565, e565, hx565_0, hx565_1⟩ := at_T115 HR0.out (ji9) p565 q565; obtain rfl : ad562 = ad565 := (by injection e565); have hn565_0 : ad562.block ≠ gb563 := Nat.ne_of_lt (Nat.lt_of_lt_of_le (by have := World.block_lt_of_cell? _ _ hx565_0; first | rwa [add_block] at this | exact this) GW563.out); have hn565_1 : ad562.block ≠ gb563 := Nat.ne_of_lt (Nat.lt_of_lt_of_le (by have := World.block_lt_of_cell? _ _ hx565_0; first | rwa [add_block] at this | exact this) GW563.out); replace hx565_0 := kp_ HB hx565_0; replace hx565_1 := kp_ HB hx565_1; replace hx565_0 := (cell_far (p := ⟨gb563, 0, none⟩) (by first | (rw [add_block]; exact hn565_0) | (show (Addr.add _ _).block ≠ _; rw [add_block]; exact hn565_0) | exact hn565_0) (.int .i64 ((rd_T115 l0 x10_1).f0))).trans hx565_0; replace hx565_1 := (cell_far (p := ⟨gb563, 0, none⟩) (by first | (rw [add_block]; exact hn565_0) | (show (Addr.add _ _).block ≠ _; rw [add_block]; exact hn565_0) | exact hn565_0) (.int .i64 ((rd_T115 l0 x10_1).f0))).trans hx565_1; replace hx565_0 := (cell_far (p := ⟨gb563, 1, none⟩) (by first | (rw [add_block]; exact hn565_1) | (show (Addr.add _ _).block ≠ _; rw [add_block]; exact hn565_1) | exact hn565_1) (.int .i64 ((rd_T115 l0 x10_1).f1))).trans hx565_0; replace hx565_1 := (cell_far (p := ⟨gb563, 1, none⟩) (by first | (rw [add_block]; exact hn565_1) | (show (Addr.add _ _).block ≠ _; rw [add_block]; exact hn565_1) | exact hn565_1) (.int .i64 ((rd_T115 l0 x10_1).f1))).trans hx565_1; (try have hy565_0 := fun (n_ : Nat) => (show ((((w13.drewN n_).setCell ⟨gb563, 0, none⟩ (.int .i64 ((rd_T115 l0 x10_1).f0))).setCell ⟨gb563, 1, none⟩ (.int .i64 ((rd_T115 l0 x10_1).f1)))).cell? _ = some _ from hx565_0)); (try have hy565_1 := fun (n_ : Nat) => (show ((((w13.drewN n_).setCell ⟨gb563, 0, none⟩ (.int .i64 ((rd_T115 l0 x10_1).f0))).setCell ⟨gb563, 1, none⟩ (.int .i64 ((rd_T115 l0 x10_1).f1)))).cell? _ = some _ from hx565_1)); clear hn565_0; clear hn565_1; replace p565 := eq_true p565; replace q565 := eq_true q565)))
            go_ret
            exact ⟨by first | rfl | (simp [errW_none, errW_some] <;> rfl) | (simp only [← hji9]; first | rfl | (simp [errW_none, errW_some] <;> rfl)) | (simp [*, errW_none, errW_some] <;> rfl) | (simp [*, Go.Proofs.Ythgeohdpjedhnaa.Gt.nil_bne]; done), by repeat (first | (with_reducible first | exact HB.out | apply below_alloc | apply pw_below_drewN | apply below_drew1 | refine below_set ?_ GE563.out) | exact HB.out)⟩
           ·rw [if_neg c12] at H
            have c12b0 : decide (((rd_T115 l0 x10_1).f0) ≤ ((rd_T115 l0 (ji9)).f0)) = false := decide_eq_false c12
            clear c12
            have H' := Aside0.mk H
            clear H
            have p562 : 0 ≤ (x10_1 : Int) := od_
            have q562 : x10_1 < (l0.length : Int) := od_
            obtain ⟨ad562, e562, hx562_0, hx562_1⟩ := at_T115 HR0.out x10_1 p562 q562
            cases e562
            replace hx562_0 := kp_ HB hx562_0
            replace hx562_1 := kp_ HB hx562_1
            replace p562 := eq_true p562
            replace q562 := eq_true q562
            go_wp2_with (first | ((with_reducible refine gate_dst (N := 4) rfl ?_); refine box_event ?hg (N := 4) ?hd (cs := #[.int .i64 0, .int .i64 0]) (t := 115) ?hr ?_; (case hd => rfl); (case hg => rfl); (case hr => first | (go_simp; done) | (go_simp; rfl)); intro gb563 hg w15 hbox hb; have n0_ := Aside0.mk (below_step bl_ hb); have n1_ := Aside0.mk (hbox); have n2_ := Aside0.mk ((by rw [hg]; exact (below_size bl_) : w.heap.size ≤ gb563)); have n3_ := Aside0.mk ((by rw [hg]; exact (below_size bl_) : w.heap.size ≤ gb563)); clear HB; have HB := n0_; have BK563 := n1_; have GW563 := n2_; have GE563 := n3_; clear n0_ n1_ n2_ n3_; clear hb hbox hg; have hcz16_0 : w15.cell? ⟨gb563, 0, none⟩ = some (.int .i64 0) := (blk_cell BK563.out 0).trans rfl; have hcz16_1 : w15.cell? ⟨gb563, 1, none⟩ = some (.int .i64 0) := (blk_cell BK563.out 1).trans rfl; have hfz16_0 := blk_frozen BK563.out 0; have hfz16_1 := blk_frozen BK563.out 1) | (go_at_call 103; (with_reducible refine (impl_isTime.calls ((rd_T115 l0 x10_1).f0) true _ A6.out).mono ?_); rintro e w' ⟨rfl, ⟨nd, rfl⟩⟩; (try exact dd_); have p565 : 0 ≤ ((ji9) : Int) := od_; have q565 : (ji9) < (l0.length : Int) := od_; obtain ⟨ad565, e565, hx565_0, hx565_1⟩ := at_T115 HR0.out (ji9) p565 q565; obtain rfl : ad562 = ad565 := (by injection e565); have hn565_0 : ad562.block ≠ gb563 := Nat.ne_of_lt (Nat.lt_of_lt_of_le (by have := World.block_lt_of_cell? _ _ hx565_0; first | rwa [add_block] at this | exact this) GW563.out); have hn565_1 : ad562.block ≠ gb563 := Nat.ne_of_lt (Nat.lt_of_lt_of_le (by have := World.block_lt_of_cell? _ _ hx565_0; first | rwa [add_block] at this | exact this) GW563.out); replace hx565_0 := kp_ HB hx565_0; replace hx565_1 := kp_ HB hx565_1; replace hx565_0 := (cell_far (p := ⟨gb563, 0, none⟩) (by first | (rw [add_block]; exact hn565_0) | (show (Addr.add _ _).block ≠ _; rw [add_block]; exact hn565_0) | exact hn565_0) (.int .i64 ((rd_T115 l0 x10_1).f0))).trans hx565_0; replace hx565_1 := (cell_far (p := ⟨gb563, 0, none⟩) (by first | (rw [add_block]; exact hn565_0) | (show (Addr.add _ _).block ≠ _; rw [add_block]; exact hn565_0) | exact hn565_0) (.int .i64 ((rd_T115 l0 x10_1).f0))).trans hx565_1; replace hx565_0 := (cell_far (p := ⟨gb563, 1, none⟩) (by first | (rw [add_block]; exact hn565_1) | (show (Addr.add _ _).block ≠ _; rw [add_block]; exact hn565_1) | exact hn565_1) (.int .i64 ((rd_T115 l0 x10_1).f1))).trans hx565_0; replace hx565_1 := (cell_far (p := ⟨gb563, 1, none⟩) (by first | (rw [add_block]; exact hn565_1) | (show (Addr.add _ _).block ≠ _; rw [add_block]; exact hn565_1) | exact hn565_1) (.int .i64 ((rd_T115 l0 x10_1).f1))).trans hx565_1; (try have hy565_0 := fun (n_ : Nat) => (show ((((w15.drewN n_).setCell ⟨gb563, 0, none⟩ (.int .i64 ((rd_T115 l0 x10_1).f0))).setCell ⟨gb563, 1, none⟩ (.int .i64 ((rd_T115 l0 x10_1).f1)))).cell? _ = some _ from hx565_0)); (try have hy565_1 := fun (n_ : Nat) => (show ((((w15.drewN n_).setCell ⟨gb563, 0, none⟩ (.int .i64 ((rd_T115 l0 x10_1).f0))).setCell ⟨gb563, 1, none⟩ (.int .i64 ((rd_T115 l0 x10_1).f1)))).cell? _ = some _ from hx565_1)); clear hn565_0; clear hn565_1; replace p565 := eq_true p565; replace q565 := eq_true q565))
            repeat (go_quiet (first | ((with_reducible refine gate_dst (N := 4) rfl ?_); refine box_event ?hg (N := 4) ?hd (cs := #[.int .i64 0, .int .i64 0]) (t := 115) ?hr ?_; (case hd => rfl); (case hg => rfl); (case hr => first | (go_simp; done) | (go_simp; rfl)); intro gb563 hg w15 hbox hb; have n0_ := Aside0.mk (below_step bl_ hb); have n1_ := Aside0.mk (hbox); have n2_ := Aside0.mk ((by rw [hg]; exact (below_size bl_) : w.heap.size ≤ gb563)); have n3_ := Aside0.mk ((by rw [hg]; exact (below_size bl_) : w.heap.size ≤ gb563)); clear HB; have HB := n0_; have BK563 := n1_; have GW563 := n2_; have GE563 := n3_; clear n0_ n1_ n2_ n3_; clear hb hbox hg; have hcz16_0 : w15.cell? ⟨gb563, 0, none⟩ = some (.int .i64 0) := (blk_cell BK563.out 0).trans rfl; have hcz16_1 : w15.cell? ⟨gb563, 1, none⟩ = some (.int .i64 0) := (blk_cell BK563.out 1).trans rfl; have hfz16_0 := blk_frozen BK563.out 0; have hfz16_1 := blk_frozen BK563.out 1) | (go_at_call 103; (with_reducible refine (impl_isTime.calls ((rd_T115 l0 x10_1).f0) true _ A6.out).mono ?_); rintro e w' ⟨rfl, ⟨nd, rfl⟩⟩; (try exact dd_); have p565 : 0 ≤ ((ji9) : Int) := od_; have q565 : (ji9) < (l0.length : Int) := od_; obtain ⟨ad565, e565, hx565_0, hx565_1⟩ := at_T115 HR0.out (ji9) p565 q565; obtain rfl : ad562 = ad565 := (by injection e565); have hn565_0 : ad562.block ≠ gb563 := Nat.ne_of_lt (Nat.lt_of_lt_of_le (by have := World.block_lt_of_cell? _ _ hx565_0; first | rwa [add_block] at this | exact this) GW563.out); have hn565_1 : ad562.block ≠ gb563 := Nat.ne_of_lt (Nat.lt_of_lt_of_le (by have := World.block_lt_of_cell? _ _ hx565_0; first | rwa [add_block] at this | exact this) GW563.out); replace hx565_0 := kp_ HB hx565_0; replace hx565_1 := kp_ HB hx565_1; replace hx565_0 := (cell_far (p := ⟨gb563, 0, none⟩) (by first | (rw [add_block]; exact hn565_0) | (show (Addr.add _ _).block ≠ _; rw [add_block]; exact hn565_0) | exact hn565_0) (.int .i64 ((rd_T115 l0 x10_1).f0))).trans hx565_0; replace hx565_1 := (cell_far (p := ⟨gb563, 0, none⟩) (by first | (rw [add_block]; exact hn565_0) | (show (Addr.add _ _).block ≠ _; rw [add_block]; exact hn565_0) | exact hn565_0) (.int .i64 ((rd_T115 l0 x10_1).f0))).trans hx565_1; replace hx565_0 := (cell_far (p := ⟨gb563, 1, none⟩) (by first | (rw [add_block]; exact hn565_1) | (show (Addr.add _ _).block ≠ _; rw [add_block]; exact hn565_1) | exact hn565_1) (.int .i64 ((rd_T115 l0 x10_1).f1))).trans hx565_0; replace hx565_1 := (cell_far (p := ⟨gb563, 1, none⟩) (by first | (rw [add_block]; exact hn565_1) | (show (Addr.add _ _).block ≠ _; rw [add_block]; exact hn565_1) | exact hn565_1) (.int .i64 ((rd_T115 l0 x10_1).f1))).trans hx565_1; (try have hy565_0 := fun (n_ : Nat) => (show ((((w15.drewN n_).setCell ⟨gb563, 0, none⟩ (.int .i64 ((rd_T115 l0 x10_1).f0))).setCell ⟨gb563, 1, none⟩ (.int .i64 ((rd_T115 l0 x10_1).f1)))).cell? _ = some _ from hx565_0)); (try have hy565_1 := fun (n_ : Nat) => (show ((((w15.drewN n_).setCell ⟨gb563, 0, none⟩ (.int .i64 ((rd_T115 l0 x10_1).f0))).setCell ⟨gb563, 1, none⟩ (.int .i64 ((rd_T115 l0 x10_1).f1)))).cell? _ = some _ from hx565_1)); clear hn565_0; clear hn565_1; replace p565 := eq_true p565; replace q565 := eq_true q565)); try go_wp2_with (first | ((with_reducible refine gate_dst (N := 4) rfl ?_); refine box_event ?hg (N := 4) ?hd (cs := #[.int .i64 0, .int .i64 0]) (t := 115) ?hr ?_; (case hd => rfl); (case hg => rfl); (case hr => first | (go_simp; done) | (go_simp; rfl)); intro gb563 hg w15 hbox hb; have n0_ := Aside0.mk (below_step bl_ hb); have n1_ := Aside0.mk (hbox); have n2_ := Aside0.mk ((by rw [hg]; exact (below_size bl_) : w.heap.size ≤ gb563)); have n3_ := Aside0.mk ((by rw [hg]; exact (below_size bl_) : w.heap.size ≤ gb563)); clear HB; have HB := n0_; have BK563 := n1_; have GW563 := n2_; have GE563 := n3_; clear n0_ n1_ n2_ n3_; clear hb hbox hg; have hcz16_0 : w15.cell? ⟨gb563, 0, none⟩ = some (.int .i64 0) := (blk_cell BK563.out 0).trans rfl; have hcz16_1 : w15.cell? ⟨gb563, 1, none⟩ = some (.int .i64 0) := (blk_cell BK563.out 1).trans rfl; have hfz16_0 := blk_frozen BK563.out 0; have hfz16_1 := blk_frozen BK563.out 1) | (go_at_call 103; (with_reducible refine (impl_isTime.calls ((rd_T115 l0 x10_1).f0) true _ A6.out).mono ?_); rintro e w' ⟨rfl, ⟨nd, rfl⟩⟩; (try exact dd_); have p565 : 0 ≤ ((ji9) : Int) := od_; have q565 : (ji9) < (l0.length : Int) := od_; obtain ⟨ad565, e565, hx565_0, hx565_1⟩ := at_T115 HR0.out (ji9) p565 q565; obtain rfl : ad562 = ad565 := (by injection e565); have hn565_0 : ad562.block ≠ gb563 := Nat.ne_of_lt (Nat.lt_of_lt_of_le (by have := World.block_lt_of_cell? _ _ hx565_0; first | rwa [add_block] at this | exact this) GW563.out); have hn565_1 : ad562.block ≠ gb563 := Nat.ne_of_lt (Nat.lt_of_lt_of_le (by have := World.block_lt_of_cell? _ _ hx565_0; first | rwa [add_block] at this | exact this) GW563.out); replace hx565_0 := kp_ HB hx565_0; replace hx565_1 := kp_ HB hx565_1; replace hx565_0 := (cell_far (p := ⟨gb563, 0, none⟩) (by first | (rw [add_block]; exact hn565_0) | (show (Addr.add _ _).block ≠ _; rw [add_block]; exact hn565_0) | exact hn565_0) (.int .i64 ((rd_T115 l0 x10_1).f0))).trans hx565_0; replace hx565_1 := (cell_far (p := ⟨gb563, 0, none⟩) (by first | (rw [add_block]; exact hn565_0) | (show (Addr.add _ _).block ≠ _; rw [add_block]; exact hn565_0) | exact hn565_0) (.int .i64 ((rd_T115 l0 x10_1).f0))).trans hx565_1; replace hx565_0 := (cell_far (p := ⟨gb563, 1, none⟩) (by first | (rw [add_block]; exact hn565_1) | (show (Addr.add _ _).block ≠ _; rw [add_block]; exact hn565_1) | exact hn565_1) (.int .i64 ((rd_T115 l0 x10_1).f1))).trans hx565_0; replace hx565_1 := (cell_far (p := ⟨gb563, 1, none⟩) (by first | (rw [add_block]; exact hn565_1) | (show (Addr.add _ _).block ≠ _; rw [add_block]; exact hn565_1) | exact hn565_1) (.int .i64 ((rd_T115 l0 x10_1).f1))).trans hx565_1; (try have hy565_0 := fun (n_ : Nat) => (show ((((w15.drewN n_).setCell ⟨gb563, 0, none⟩ (.int .i64 ((rd_T115 l0 x10_1).f0))).setCell ⟨gb563, 1, none⟩ (.int .i64 ((rd_T115 l0 x10_1).f1)))).cell? _ = some _ from hx565_0)); (try have hy565_1 := fun (n_ : Nat) => (show ((((w15.drewN n_).setCell ⟨gb563, 0, none⟩ (.int .i64 ((rd_T115 l0 x10_1).f0))).setCell ⟨gb563, 1, none⟩ (.int .i64 ((rd_T115 l0 x10_1).f1)))).cell? _ = some _ from hx565_1)); clear hn565_0; clear hn565_1; replace p565 := eq_true p565; replace q565 := eq_true q565)))
            go_roundg k1
            case measure => have := HK1.out; omega
            case rel => exact ⟨(wrap64 (x10_1 + 1)), (by first | rfl | (simp; done) | (simp [*]; done)), H', ⟨by have := HK1.out; omega⟩, ⟨by repeat (first | (with_reducible first | exact HB.out | apply below_alloc | apply pw_below_drewN | apply below_drew1 | refine below_set ?_ GE563.out) | exact HB.out)⟩⟩
          ·rw [if_neg c11] at H
           exact absurd H (by simp)
         ·rw [if_neg c10] at H
          exact absurd H (by simp)
        ·rw [if_neg c8] at H
         have c8b0 : decide (0 < x10_1) = false := decide_eq_false c8
         clear c8
         have H' := Aside0.mk H
         clear H
         have p562 : 0 ≤ (x10_1 : Int) := od_
         have q562 : x10_1 < (l0.length : Int) := od_
         obtain ⟨ad562, e562, hx562_0, hx562_1⟩ := at_T115 HR0.out x10_1 p562 q562
         cases e562
         replace hx562_0 := kp_ HB hx562_0
         replace hx562_1 := kp_ HB hx562_1
         replace p562 := eq_true p562
         replace q562 := eq_true q562
         go_wp2_with (first | ((with_reducible refine gate_dst (N := 4) rfl ?_); refine box_event ?hg (N := 4) ?hd (cs := #[.int .i64 0, .int .i64 0]) (t := 115) ?hr ?_; (case hd => rfl); (case hg => rfl); (case hr => first | (go_simp; done) | (go_simp; rfl)); intro gb563 hg w17 hbox hb; have n0_ := Aside0.mk (below_step bl_ hb); have n1_ := Aside0.mk (hbox); have n2_ := Aside0.mk ((by rw [hg]; exact (below_size bl_) : w.heap.size ≤ gb563)); have n3_ := Aside0.mk ((by rw [hg]; exact (below_size bl_) : w.heap.size ≤ gb563)); clear HB; have HB := n0_; have BK563 := n1_; have GW563 := n2_; have GE563 := n3_; clear n0_ n1_ n2_ n3_; clear hb hbox hg; have hcz18_0 : w17.cell? ⟨gb563, 0, none⟩ = some (.int .i64 0) := (blk_cell BK563.out 0).trans rfl; have hcz18_1 : w17.cell? ⟨gb563, 1, none⟩ = some (.int .i64 0) := (blk_cell BK563.out 1).trans rfl; have hfz18_0 := blk_frozen BK563.out 0; have hfz18_1 := blk_frozen BK563.out 1) | (go_at_call 103; (with_reducible refine (impl_isTime.calls ((rd_T115 l0 x10_1).f0) true _ A6.out).mono ?_); rintro e w' ⟨rfl, ⟨nd, rfl⟩⟩; (try exact dd_)))
         repeat (go_quiet (first | ((with_reducible refine gate_dst (N := 4) rfl ?_); refine box_event ?hg (N := 4) ?hd (cs := #[.int .i64 0, .int .i64 0]) (t := 115) ?hr ?_; (case hd => rfl); (case hg => rfl); (case hr => first | (go_simp; done) | (go_simp; rfl)); intro gb563 hg w17 hbox hb; have n0_ := Aside0.mk (below_step bl_ hb); have n1_ := Aside0.mk (hbox); have n2_ := Aside0.mk ((by rw [hg]; exact (below_size bl_) : w.heap.size ≤ gb563)); have n3_ := Aside0.mk ((by rw [hg]; exact (below_size bl_) : w.heap.size ≤ gb563)); clear HB; have HB := n0_; have BK563 := n1_; have GW563 := n2_; have GE563 := n3_; clear n0_ n1_ n2_ n3_; clear hb hbox hg; have hcz18_0 : w17.cell? ⟨gb563, 0, none⟩ = some (.int .i64 0) := (blk_cell BK563.out 0).trans rfl; have hcz18_1 : w17.cell? ⟨gb563, 1, none⟩ = some (.int .i64 0) := (blk_cell BK563.out 1).trans rfl; have hfz18_0 := blk_frozen BK563.out 0; have hfz18_1 := blk_frozen BK563.out 1) | (go_at_call 103; (with_reducible refine (impl_isTime.calls ((rd_T115 l0 x10_1).f0) true _ A6.out).mono ?_); rintro e w' ⟨rfl, ⟨nd, rfl⟩⟩; (try exact dd_))); try go_wp2_with (first | ((with_reducible refine gate_dst (N := 4) rfl ?_); refine box_event ?hg (N := 4) ?hd (cs := #[.int .i64 0, .int .i64 0]) (t := 115) ?hr ?_; (case hd => rfl); (case hg => rfl); (case hr => first | (go_simp; done) | (go_simp; rfl)); intro gb563 hg w17 hbox hb; have n0_ := Aside0.mk (below_step bl_ hb); have n1_ := Aside0.mk (hbox); have n2_ := Aside0.mk ((by rw [hg]; exact (below_size bl_) : w.heap.size ≤ gb563)); have n3_ := Aside0.mk ((by rw [hg]; exact (below_size bl_) : w.heap.size ≤ gb563)); clear HB; have HB := n0_; have BK563 := n1_; have GW563 := n2_; have GE563 := n3_; clear n0_ n1_ n2_ n3_; clear hb hbox hg; have hcz18_0 : w17.cell? ⟨gb563, 0, none⟩ = some (.int .i64 0) := (blk_cell BK563.out 0).trans rfl; have hcz18_1 : w17.cell? ⟨gb563, 1, none⟩ = some (.int .i64 0) := (blk_cell BK563.out 1).trans rfl; have hfz18_0 := blk_frozen BK563.out 0; have hfz18_1 := blk_frozen BK563.out 1) | (go_at_call 103; (with_reducible refine (impl_isTime.calls ((rd_T115 l0 x10_1).f0) true _ A6.out).mono ?_); rintro e w' ⟨rfl, ⟨nd, rfl⟩⟩; (try exact dd_))))
         go_roundg k1
         case measure => have := HK1.out; omega
         case rel => exact ⟨(wrap64 (x10_1 + 1)), (by first | rfl | (simp; done) | (simp [*]; done)), H', ⟨by have := HK1.out; omega⟩, ⟨by repeat (first | (with_reducible first | exact HB.out | apply below_alloc | apply pw_below_drewN | apply below_drew1 | refine below_set ?_ GE563.out) | exact HB.out)⟩⟩
       ·replace c7 := Bool.eq_false_iff.mpr c7
        subst c7
        have H1 : (some false) = some r := by rw [if_neg (show ¬ (false = true) by decide)] at H; exact H
        clear H
        have H := H1
        clear H1
        obtain rfl := Option.some.inj H
        have p562 : 0 ≤ (x10_1 : Int) := od_
        have q562 : x10_1 < (l0.length : Int) := od_
        obtain ⟨ad562, e562, hx562_0, hx562_1⟩ := at_T115 HR0.out x10_1 p562 q562
        cases e562
        replace hx562_0 := kp_ HB hx562_0
        replace hx562_1 := kp_ HB hx562_1
        replace p562 := eq_true p562
        replace q562 := eq_true q562
        go_wp2_with (first | ((with_reducible refine gate_dst (N := 4) rfl ?_); refine box_event ?hg (N := 4) ?hd (cs := #[.int .i64 0, .int .i64 0]) (t := 115) ?hr ?_; (case hd => rfl); (case hg => rfl); (case hr => first | (go_simp; done) | (go_simp; rfl)); intro gb563 hg w19 hbox hb; have n0_ := Aside0.mk (below_step bl_ hb); have n1_ := Aside0.mk (hbox); have n2_ := Aside0.mk ((by rw [hg]; exact (below_size bl_) : w.heap.size ≤ gb563)); have n3_ := Aside0.mk ((by rw [hg]; exact (below_size bl_) : w.heap.size ≤ gb563)); clear HB; have HB := n0_; have BK563 := n1_; have GW563 := n2_; have GE563 := n3_; clear n0_ n1_ n2_ n3_; clear hb hbox hg; have hcz20_0 : w19.cell? ⟨gb563, 0, none⟩ = some (.int .i64 0) := (blk_cell BK563.out 0).trans rfl; have hcz20_1 : w19.cell? ⟨gb563, 1, none⟩ = some (.int .i64 0) := (blk_cell BK563.out 1).trans rfl; have hfz20_0 := blk_frozen BK563.out 0; have hfz20_1 := blk_frozen BK563.out 1) | (go_at_call 103; (with_reducible refine (impl_isTime.calls ((rd_T115 l0 x10_1).f0) false _ A6.out).mono ?_); rintro e w' ⟨rfl, ⟨nd, rfl⟩⟩; (try exact dd_)))
        repeat (go_quiet (first | ((with_reducible refine gate_dst (N := 4) rfl ?_); refine box_event ?hg (N := 4) ?hd (cs := #[.int .i64 0, .int .i64 0]) (t := 115) ?hr ?_; (case hd => rfl); (case hg => rfl); (case hr => first | (go_simp; done) | (go_simp; rfl)); intro gb563 hg w19 hbox hb; have n0_ := Aside0.mk (below_step bl_ hb); have n1_ := Aside0.mk (hbox); have n2_ := Aside0.mk ((by rw [hg]; exact (below_size bl_) : w.heap.size ≤ gb563)); have n3_ := Aside0.mk ((by rw [hg]; exact (below_size bl_) : w.heap.size ≤ gb563)); clear HB; have HB := n0_; have BK563 := n1_; have GW563 := n2_; have GE563 := n3_; clear n0_ n1_ n2_ n3_; clear hb hbox hg; have hcz20_0 : w19.cell? ⟨gb563, 0, none⟩ = some (.int .i64 0) := (blk_cell BK563.out 0).trans rfl; have hcz20_1 : w19.cell? ⟨gb563, 1, none⟩ = some (.int .i64 0) := (blk_cell BK563.out 1).trans rfl; have hfz20_0 := blk_frozen BK563.out 0; have hfz20_1 := blk_frozen BK563.out 1) | (go_at_call 103; (with_reducible refine (impl_isTime.calls ((rd_T115 l0 x10_1).f0) false _ A6.out).mono ?_); rintro e w' ⟨rfl, ⟨nd, rfl⟩⟩; (try exact dd_))); try go_wp2_with (first | ((with_reducible refine gate_dst (N := 4) rfl ?_); refine box_event ?hg (N := 4) ?hd (cs := #[.int .i64 0, .int .i64 0]) (t := 115) ?hr ?_; (case hd => rfl); (case hg => rfl); (case hr => first | (go_simp; done) | (go_simp; rfl)); intro gb563 hg w19 hbox hb; have n0_ := Aside0.mk (below_step bl_ hb); have n1_ := Aside0.mk (hbox); have n2_ := Aside0.mk ((by rw [hg]; exact (below_size bl_) : w.heap.size ≤ gb563)); have n3_ := Aside0.mk ((by rw [hg]; exact (below_size bl_) : w.heap.size ≤ gb563)); clear HB; have HB := n0_; have BK563 := n1_; have GW563 := n2_; have GE563 := n3_; clear n0_ n1_ n2_ n3_; clear hb hbox hg; have hcz20_0 : w19.cell? ⟨gb563, 0, none⟩ = some (.int .i64 0) := (blk_cell BK563.out 0).trans rfl; have hcz20_1 : w19.cell? ⟨gb563, 1, none⟩ = some (.int .i64 0) := (blk_cell BK563.out 1).trans rfl; have hfz20_0 := blk_frozen BK563.out 0; have hfz20_1 := blk_frozen BK563.out 1) | (go_at_call 103; (with_reducible refine (impl_isTime.calls ((rd_T115 l0 x10_1).f0) false _ A6.out).mono ?_); rintro e w' ⟨rfl, ⟨nd, rfl⟩⟩; (try exact dd_))))
        go_ret
        exact ⟨by first | rfl | (simp [errW_none, errW_some] <;> rfl) | (simp [*, errW_none, errW_some] <;> rfl) | (simp [*, Go.Proofs.Ythgeohdpjedhnaa.Gt.nil_bne]; done), by repeat (first | (with_reducible first | exact HB.out | apply below_alloc | apply pw_below_drewN | apply below_drew1 | refine below_set ?_ GE563.out) | exact HB.out)⟩
      ·rw [if_neg c5] at H
       exact absurd H (by simp)
     ·rw [if_neg c4] at H
      exact absurd H (by simp)
    ·rw [if_neg c3] at H
     have c3b0 : decide (x10_1 < (l0.length : Int)) = false := decide_eq_false c3
     clear c3
     obtain rfl := Option.some.inj H
     go_wp2
     repeat (go_quiet (fail); try go_wp2)
     go_ret
     exact ⟨by first | rfl | (simp [errW_none, errW_some] <;> rfl) | (simp [*, errW_none, errW_some] <;> rfl) | (simp [*, Go.Proofs.Ythgeohdpjedhnaa.Gt.nil_bne]; done), bl_⟩

/-! ### cmp_Or_int: function 135 -/
def cmp_Or_int.l0 : Nat → Int → List Int → Int → Int → Option (Int)
 | 0, _, _, _, _ => none
 | k + 1, x3, x6, x7, x8 => if x8 < x7 then (if 0 ≤ x8 then (if x8 < (x6.length : Int) then (if (rd x6 x8) = x3 then (cmp_Or_int.l0 k x3 x6 x7 (wrap64 (x8 + 1))) else (some (rd x6 x8))) else (none)) else (none)) else (some x3)
def cmp_Or_int.f (k : Nat) (l0 : List Int) : Option (Int) := cmp_Or_int.l0 k 0 l0 (l0.length : Int) 0
theorem cmp_Or_int.mono_l : ∀ k, (∀ y0 y1 y2 y3, LeO (cmp_Or_int.l0 k y0 y1 y2 y3) (cmp_Or_int.l0 (k + 1) y0 y1 y2 y3))
 | 0 => fun _ _ _ _ r h => by simp [cmp_Or_int.l0] at h
 | k + 1 => by
  have ih0 := cmp_Or_int.mono_l k
  ·intro y0 y1 y2 y3
   unfold cmp_Or_int.l0
   repeat' first
   | (with_reducible exact ih0 _ _ _ _)
   | (with_reducible exact LeO.refl _)
   | (with_reducible exact LeO.none _)
   | (with_reducible refine LeO.ite ?_ ?_)
   | (with_reducible refine LeO.bind ?_ (fun _ => ?_))
   | exact ih0 _ _ _ _
   | exact LeO.none _
   | refine LeO.ite ?_ ?_
   | refine LeO.bind ?_ (fun _ => ?_)
theorem cmp_Or_int.mono : ∀ a0 k, LeO (cmp_Or_int.f k a0) (cmp_Or_int.f (k + 1) a0) := by
 intro a0 k
 have ih0 := cmp_Or_int.mono_l k
 unfold cmp_Or_int.f
 repeat' first
   | (with_reducible exact ih0 _ _ _ _)
   | (with_reducible exact LeO.refl _)
   | (with_reducible exact LeO.none _)
   | (with_reducible refine LeO.ite ?_ ?_)
   | (with_reducible refine LeO.bind ?_ (fun _ => ?_))
   | exact ih0 _ _ _ _
   | exact LeO.none _
   | refine LeO.ite ?_ ?_
   | refine LeO.bind ?_ (fun _ => ?_)
set_option maxHeartbeats 8000000 in
set_option maxRecDepth 100000 in
theorem cmp_Or_int.calls (k : Nat) (A0 : Option Addr) (c0 : Nat) (l0 : List Int) (r : Int) (w : World) (hr0 : Kd.C (Kd.int .i64) w A0 l0.length l0) (hc0 : l0.length ≤ c0) (h : cmp_Or_int.f k l0 = some r) :
  Calls Try.prog 135 #[.slice A0 l0.length c0] w fun e w' => e = .returned (.int .i64 r) ∧ Drawn0 w w' := by
 have HR0 := Aside0.mk hr0
 have HC0 := Aside0.mk hc0
 clear hr0 hc0
 have H : (cmp_Or_int.l0 k 0 l0 (l0.length : Int) 0) = some r := h
 clear h
 have H' := Aside0.mk H
 clear H
 go_enter Try.func135, Try.ntmps135
 go_wp2
 go_loopg [8] k (fun kq v8 w' => ∃ (x8_1 : Int), v8 = .int .i64 x8_1 ∧ Aside0 (cmp_Or_int.l0 kq 0 l0 (l0.length : Int) x8_1 = some r) ∧ Aside0 (kq ≤ k) ∧ Drawn0 w w')
 case atStart => exact ⟨(0), (by first | rfl | (simp; done) | (simp [*]; done)), H', ⟨Nat.le_refl _⟩, by repeat (first | exact Drawn0.refl _ | apply Drawn0.step)⟩
 case round =>
  clear H'
  try clear c1
  obtain ⟨x8_1, rfl, HA, HK1, ⟨m1, rfl⟩⟩ := hrel
  cases gk with
  | zero => exact absurd HA.out (by simp [cmp_Or_int.l0])
  | succ k1 =>
   have H := HA.out
   clear HA
   simp only [cmp_Or_int.l0] at H
   by_cases c2 : x8_1 < (l0.length : Int)
   ·rw [if_pos c2] at H
    have c2b0 : decide (x8_1 < (l0.length : Int)) = true := decide_eq_true c2
    clear c2
    by_cases c3 : 0 ≤ x8_1
    ·rw [if_pos c3] at H
     have c3b0 : decide (0 ≤ x8_1) = true := decide_eq_true c3
     clear c3
     by_cases c4 : x8_1 < (l0.length : Int)
     ·rw [if_pos c4] at H
      have c4b0 : decide (x8_1 < (l0.length : Int)) = true := decide_eq_true c4
      clear c4
      by_cases c5 : (rd l0 x8_1) = 0
      ·rw [if_pos c5] at H
       have c5b0 : ((rd l0 x8_1) == 0) = true := beq_iff_eq.mpr c5
       have c5b1 : ((rd l0 x8_1) != 0) = false := bne_eq_false_iff_eq.mpr c5
       clear c5
       have H' := Aside0.mk H
       clear H
       have p566 : 0 ≤ (x8_1 : Int) := od_
       have q566 : x8_1 < (l0.length : Int) := od_
       obtain ⟨ad566, e566, hx566_0⟩ := Kd.at_int HR0.out x8_1 p566 q566
       cases e566
       replace p566 := eq_true p566
       replace q566 := eq_true q566
       go_wp2
       go_roundg k1
       case measure => have := HK1.out; omega
       case rel => exact ⟨(wrap64 (x8_1 + 1)), (by first | rfl | (simp; done) | (simp [*]; done)), H', ⟨by have := HK1.out; omega⟩, by repeat (first | exact Drawn0.refl _ | apply Drawn0.step)⟩
      ·rw [if_neg c5] at H
       have c5b0 : ((rd l0 x8_1) == 0) = false := beq_eq_false_iff_ne.mpr c5
       have c5b1 : ((rd l0 x8_1) != 0) = true := bne_iff_ne.mpr c5
       obtain rfl := Option.some.inj H
       have p566 : 0 ≤ (x8_1 : Int) := od_
       have q566 : x8_1 < (l0.length : Int) := od_
       obtain ⟨ad566, e566, hx566_0⟩ := Kd.at_int HR0.out x8_1 p566 q566
       cases e566
       replace p566 := eq_true p566
       replace q566 := eq_true q566
       go_wp2
       go_ret
       exact ⟨by first | rfl | (simp; done) | (simp [*]; done), by repeat (first | exact Drawn0.refl _ | apply Drawn0.step)⟩
     ·rw [if_neg c4] at H
      exact absurd H (by simp)
    ·rw [if_neg c3] at H
     exact absurd H (by simp)
   ·rw [if_neg c2] at H
    have c2b0 : decide (x8_1 < (l0.length : Int)) = false := decide_eq_false c2
    clear c2
    obtain rfl := Option.some.inj H
    go_wp2
    go_ret
    exact ⟨by first | rfl | (simp; done) | (simp [*]; done), by repeat (first | exact Drawn0.refl _ | apply Drawn0.step)⟩

/-! ### cmp_isNaN_string: function 157 -/
def cmp_isNaN_string.f (a0 : ByteArray) : Option (Bool) := some (a0.toList != a0.toList)
set_option maxHeartbeats 8000000 in
set_option maxRecDepth 100000 in
theorem cmp_isNaN_string.calls (a0 : ByteArray) (r : Bool) (w : World) (h : cmp_isNaN_string.f a0 = some r) :
  Calls Try.prog 157 #[.string a0] w fun e w' => e = .returned (.bool r) ∧ Drawn0 w w' := by
 have H : (some (a0.toList != a0.toList)) = some r := h
 clear h
 obtain rfl := Option.some.inj H
 go_enter Try.func157, Try.ntmps157
 go_wp2
 go_ret
 exact ⟨by first | rfl | (simp; done) | (simp [*]; done), by repeat (first | exact Drawn0.refl _ | apply Drawn0.step)⟩

/-! ### cmp_Compare_string: function 136 -/
def cmp_Compare_string.f (a0 : ByteArray) (a1 : ByteArray) : Option (Int) := (cmp_isNaN_string.f a0).bind fun t567 => ((cmp_isNaN_string.f a1).bind fun t568 => (if t567 = true then (if t568 = true then (some 0) else (some (-1))) else (if t568 = true then (some 1) else (if (Op.bytesLess a0.toList a1.toList) = true then (some (-1)) else (if (Op.bytesLess a1.toList a0.toList) = true then (some 1) else (some 0))))))
set_option maxHeartbeats 8000000 in
set_option maxRecDepth 100000 in
theorem cmp_Compare_string.calls (a0 : ByteArray) (a1 : ByteArray) (r : Int) (w : World) (h : cmp_Compare_string.f a0 a1 = some r) :
  Calls Try.prog 136 #[.string a0, .string a1] w fun e w' => e = .returned (.int .i64 r) ∧ Drawn0 w w' := by
 have H : ((cmp_isNaN_string.f a0).bind fun t567 => ((cmp_isNaN_string.f a1).bind fun t568 => (if t567 = true then (if t568 = true then (some 0) else (some (-1))) else (if t568 = true then (some 1) else (if (Op.bytesLess a0.toList a1.toList) = true then (some (-1)) else (if (Op.bytesLess a1.toList a0.toList) = true then (some 1) else (some 0))))))) = some r := h
 clear h
 replace H := Option.bind_eq_some_iff.mp H
 obtain ⟨t567, A30, H⟩ := H
 replace H : ((cmp_isNaN_string.f a1).bind fun t568 => (if t567 = true then (if t568 = true then (some 0) else (some (-1))) else (if t568 = true then (some 1) else (if (Op.bytesLess a0.toList a1.toList) = true then (some (-1)) else (if (Op.bytesLess a1.toList a0.toList) = true then (some 1) else (some 0)))))) = some r := H
 have A3 := Aside0.mk A30
 clear A30
 replace H := Option.bind_eq_some_iff.mp H
 obtain ⟨t568, A40, H⟩ := H
 replace H : (if t567 = true then (if t568 = true then (some 0) else (some (-1))) else (if t568 = true then (some 1) else (if (Op.bytesLess a0.toList a1.toList) = true then (some (-1)) else (if (Op.bytesLess a1.toList a0.toList) = true then (some 1) else (some 0))))) = some r := H
 have A4 := Aside0.mk A40
 clear A40
 by_cases c5 : t567 = true
 ·subst c5
  have H1 : (if t568 = true then (some 0) else (some (-1))) = some r := by rw [if_pos rfl] at H; exact H
  clear H
  have H := H1
  clear H1
  by_cases c6 : t568 = true
  ·subst c6
   have H1 : (some 0) = some r := by rw [if_pos rfl] at H; exact H
   clear H
   have H := H1
   clear H1
   obtain rfl := Option.some.inj H
   go_enter Try.func136, Try.ntmps136
   go_wp2_with (first | ((with_reducible refine gate_callee (f := 157) rfl ?_); refine goesL_ (some 8) rfl rfl Try.func157 (by kernel_rfl) rfl #[.string a0] rfl (by (try simp only [List.map_toArray, List.map_cons, List.map_nil]); first | done | rfl | (simp only [List.length_drop, List.length_take]; rfl)) ?_; (with_reducible refine (cmp_isNaN_string.calls a0 true _ A3.out).mono ?_); rintro e w' ⟨rfl, ⟨nd, rfl⟩⟩; refine ⟨_, rfl, ?_⟩) | ((with_reducible refine gate_callee (f := 157) rfl ?_); refine goesL_ (some 10) rfl rfl Try.func157 (by kernel_rfl) rfl #[.string a1] rfl (by (try simp only [List.map_toArray, List.map_cons, List.map_nil]); first | done | rfl | (simp only [List.length_drop, List.length_take]; rfl)) ?_; (with_reducible refine (cmp_isNaN_string.calls a1 true _ A4.out).mono ?_); rintro e w' ⟨rfl, ⟨nd, rfl⟩⟩; refine ⟨_, rfl, ?_⟩))
   go_ret
   exact ⟨by first | rfl | (simp; done) | (simp [*]; done), by repeat (first | exact Drawn0.refl _ | apply Drawn0.step)⟩
  ·replace c6 := Bool.eq_false_iff.mpr c6
   subst c6
   have H1 : (some (-1)) = some r := by rw [if_neg (show ¬ (false = true) by decide)] at H; exact H
   clear H
   have H := H1
   clear H1
   obtain rfl := Option.some.inj H
   go_enter Try.func136, Try.ntmps136
   go_wp2_with (first | ((with_reducible refine gate_callee (f := 157) rfl ?_); refine goesL_ (some 8) rfl rfl Try.func157 (by kernel_rfl) rfl #[.string a0] rfl (by (try simp only [List.map_toArray, List.map_cons, List.map_nil]); first | done | rfl | (simp only [List.length_drop, List.length_take]; rfl)) ?_; (with_reducible refine (cmp_isNaN_string.calls a0 true _ A3.out).mono ?_); rintro e w' ⟨rfl, ⟨nd, rfl⟩⟩; refine ⟨_, rfl, ?_⟩) | ((with_reducible refine gate_callee (f := 157) rfl ?_); refine goesL_ (some 10) rfl rfl Try.func157 (by kernel_rfl) rfl #[.string a1] rfl (by (try simp only [List.map_toArray, List.map_cons, List.map_nil]); first | done | rfl | (simp only [List.length_drop, List.length_take]; rfl)) ?_; (with_reducible refine (cmp_isNaN_string.calls a1 false _ A4.out).mono ?_); rintro e w' ⟨rfl, ⟨nd, rfl⟩⟩; refine ⟨_, rfl, ?_⟩))
   go_ret
   exact ⟨by first | rfl | (simp; done) | (simp [*]; done), by repeat (first | exact Drawn0.refl _ | apply Drawn0.step)⟩
 ·replace c5 := Bool.eq_false_iff.mpr c5
  subst c5
  have H1 : (if t568 = true then (some 1) else (if (Op.bytesLess a0.toList a1.toList) = true then (some (-1)) else (if (Op.bytesLess a1.toList a0.toList) = true then (some 1) else (some 0)))) = some r := by rw [if_neg (show ¬ (false = true) by decide)] at H; exact H
  clear H
  have H := H1
  clear H1
  by_cases c7 : t568 = true
  ·subst c7
   have H1 : (some 1) = some r := by rw [if_pos rfl] at H; exact H
   clear H
   have H := H1
   clear H1
   obtain rfl := Option.some.inj H
   go_enter Try.func136, Try.ntmps136
   go_wp2_with (first | ((with_reducible refine gate_callee (f := 157) rfl ?_); refine goesL_ (some 8) rfl rfl Try.func157 (by kernel_rfl) rfl #[.string a0] rfl (by (try simp only [List.map_toArray, List.map_cons, List.map_nil]); first | done | rfl | (simp only [List.length_drop, List.length_take]; rfl)) ?_; (with_reducible refine (cmp_isNaN_string.calls a0 false _ A3.out).mono ?_); rintro e w' ⟨rfl, ⟨nd, rfl⟩⟩; refine ⟨_, rfl, ?_⟩) | ((with_reducible refine gate_callee (f := 157) rfl ?_); refine goesL_ (some 10) rfl rfl Try.func157 (by kernel_rfl) rfl #[.string a1] rfl (by (try simp only [List.map_toArray, List.map_cons, List.map_nil]); first | done | rfl | (simp only [List.length_drop, List.length_take]; rfl)) ?_; (with_reducible refine (cmp_isNaN_string.calls a1 true _ A4.out).mono ?_); rintro e w' ⟨rfl, ⟨nd, rfl⟩⟩; refine ⟨_, rfl, ?_⟩))
   go_ret
   exact ⟨by first | rfl | (simp; done) | (simp [*]; done), by repeat (first | exact Drawn0.refl _ | apply Drawn0.step)⟩
  ·replace c7 := Bool.eq_false_iff.mpr c7
   subst c7
   have H1 : (if (Op.bytesLess a0.toList a1.toList) = true then (some (-1)) else (if (Op.bytesLess a1.toList a0.toList) = true then (some 1) else (some 0))) = some r := by rw [if_neg (show ¬ (false = true) by decide)] at H; exact H
   clear H
   have H := H1
   clear H1
   by_cases c8 : (Op.bytesLess a0.toList a1.toList) = true
   ·rw [if_pos c8] at H
    have c8b0 : (Op.bytesLess a0.toList a1.toList) = true := c8
    clear c8
    obtain rfl := Option.some.inj H
    go_enter Try.func136, Try.ntmps136
    go_wp2_with (first | ((with_reducible refine gate_callee (f := 157) rfl ?_); refine goesL_ (some 8) rfl rfl Try.func157 (by kernel_rfl) rfl #[.string a0] rfl (by (try simp only [List.map_toArray, List.map_cons, List.map_nil]); first | done | rfl | (simp only [List.length_drop, List.length_take]; rfl)) ?_; (with_reducible refine (cmp_isNaN_string.calls a0 false _ A3.out).mono ?_); rintro e w' ⟨rfl, ⟨nd, rfl⟩⟩; refine ⟨_, rfl, ?_⟩) | ((with_reducible refine gate_callee (f := 157) rfl ?_); refine goesL_ (some 10) rfl rfl Try.func157 (by kernel_rfl) rfl #[.string a1] rfl (by (try simp only [List.map_toArray, List.map_cons, List.map_nil]); first | done | rfl | (simp only [List.length_drop, List.length_take]; rfl)) ?_; (with_reducible refine (cmp_isNaN_string.calls a1 false _ A4.out).mono ?_); rintro e w' ⟨rfl, ⟨nd, rfl⟩⟩; refine ⟨_, rfl, ?_⟩))
    go_ret
    exact ⟨by first | rfl | (simp; done) | (simp [*]; done), by repeat (first | exact Drawn0.refl _ | apply Drawn0.step)⟩
   ·rw [if_neg c8] at H
    have c8b0 : (Op.bytesLess a0.toList a1.toList) = false := by simpa using c8
    clear c8
    by_cases c9 : (Op.bytesLess a1.toList a0.toList) = true
    ·rw [if_pos c9] at H
     have c9b0 : (Op.bytesLess a1.toList a0.toList) = true := c9
     clear c9
     obtain rfl := Option.some.inj H
     go_enter Try.func136, Try.ntmps136
     go_wp2_with (first | ((with_reducible refine gate_callee (f := 157) rfl ?_); refine goesL_ (some 8) rfl rfl Try.func157 (by kernel_rfl) rfl #[.string a0] rfl (by (try simp only [List.map_toArray, List.map_cons, List.map_nil]); first | done | rfl | (simp only [List.length_drop, List.length_take]; rfl)) ?_; (with_reducible refine (cmp_isNaN_string.calls a0 false _ A3.out).mono ?_); rintro e w' ⟨rfl, ⟨nd, rfl⟩⟩; refine ⟨_, rfl, ?_⟩) | ((with_reducible refine gate_callee (f := 157) rfl ?_); refine goesL_ (some 10) rfl rfl Try.func157 (by kernel_rfl) rfl #[.string a1] rfl (by (try simp only [List.map_toArray, List.map_cons, List.map_nil]); first | done | rfl | (simp only [List.length_drop, List.length_take]; rfl)) ?_; (with_reducible refine (cmp_isNaN_string.calls a1 false _ A4.out).mono ?_); rintro e w' ⟨rfl, ⟨nd, rfl⟩⟩; refine ⟨_, rfl, ?_⟩))
     go_ret
     exact ⟨by first | rfl | (simp; done) | (simp [*]; done), by repeat (first | exact Drawn0.refl _ | apply Drawn0.step)⟩
    ·rw [if_neg c9] at H
     have c9b0 : (Op.bytesLess a1.toList a0.toList) = false := by simpa using c9
     clear c9
     obtain rfl := Option.some.inj H
     go_enter Try.func136, Try.ntmps136
     go_wp2_with (first | ((with_reducible refine gate_callee (f := 157) rfl ?_); refine goesL_ (some 8) rfl rfl Try.func157 (by kernel_rfl) rfl #[.string a0] rfl (by (try simp only [List.map_toArray, List.map_cons, List.map_nil]); first | done | rfl | (simp only [List.length_drop, List.length_take]; rfl)) ?_; (with_reducible refine (cmp_isNaN_string.calls a0 false _ A3.out).mono ?_); rintro e w' ⟨rfl, ⟨nd, rfl⟩⟩; refine ⟨_, rfl, ?_⟩) | ((with_reducible refine gate_callee (f := 157) rfl ?_); refine goesL_ (some 10) rfl rfl Try.func157 (by kernel_rfl) rfl #[.string a1] rfl (by (try simp only [List.map_toArray, List.map_cons, List.map_nil]); first | done | rfl | (simp only [List.length_drop, List.length_take]; rfl)) ?_; (with_reducible refine (cmp_isNaN_string.calls a1 false _ A4.out).mono ?_); rintro e w' ⟨rfl, ⟨nd, rfl⟩⟩; refine ⟨_, rfl, ?_⟩))
     go_ret
     exact ⟨by first | rfl | (simp; done) | (simp [*]; done), by repeat (first | exact Drawn0.refl _ | apply Drawn0.step)⟩

/-! ### cmp_isNaN_int: function 158 -/
def cmp_isNaN_int.f (a0 : Int) : Option (Bool) := some (a0 != a0)
set_option maxHeartbeats 8000000 in
set_option maxRecDepth 100000 in
theorem cmp_isNaN_int.calls (a0 : Int) (r : Bool) (w : World) (h : cmp_isNaN_int.f a0 = some r) :
  Calls Try.prog 158 #[.int .i64 a0] w fun e w' => e = .returned (.bool r) ∧ Drawn0 w w' := by
 have H : (some (a0 != a0)) = some r := h
 clear h
 obtain rfl := Option.some.inj H
 go_enter Try.func158, Try.ntmps158
 go_wp2
 go_ret
 exact ⟨by first | rfl | (simp; done) | (simp [*]; done), by repeat (first | exact Drawn0.refl _ | apply Drawn0.step)⟩

/-! ### cmp_Compare_int: function 137 -/
def cmp_Compare_int.f (a0 : Int) (a1 : Int) : Option (Int) := (cmp_isNaN_int.f a0).bind fun t569 => ((cmp_isNaN_int.f a1).bind fun t570 => (if t569 = true then (if t570 = true then (some 0) else (some (-1))) else (if t570 = true then (some 1) else (if a0 < a1 then (some (-1)) else (if a0 > a1 then (some 1) else (some 0))))))
set_option maxHeartbeats 8000000 in
set_option maxRecDepth 100000 in
theorem cmp_Compare_int.calls (a0 : Int) (a1 : Int) (r : Int) (w : World) (h : cmp_Compare_int.f a0 a1 = some r) :
  Calls Try.prog 137 #[.int .i64 a0, .int .i64 a1] w fun e w' => e = .returned (.int .i64 r) ∧ Drawn0 w w' := by
 have H : ((cmp_isNaN_int.f a0).bind fun t569 => ((cmp_isNaN_int.f a1).bind fun t570 => (if t569 = true then (if t570 = true then (some 0) else (some (-1))) else (if t570 = true then (some 1) else (if a0 < a1 then (some (-1)) else (if a0 > a1 then (some 1) else (some 0))))))) = some r := h
 clear h
 replace H := Option.bind_eq_some_iff.mp H
 obtain ⟨t569, A30, H⟩ := H
 replace H : ((cmp_isNaN_int.f a1).bind fun t570 => (if t569 = true then (if t570 = true then (some 0) else (some (-1))) else (if t570 = true then (some 1) else (if a0 < a1 then (some (-1)) else (if a0 > a1 then (some 1) else (some 0)))))) = some r := H
 have A3 := Aside0.mk A30
 clear A30
 replace H := Option.bind_eq_some_iff.mp H
 obtain ⟨t570, A40, H⟩ := H
 replace H : (if t569 = true then (if t570 = true then (some 0) else (some (-1))) else (if t570 = true then (some 1) else (if a0 < a1 then (some (-1)) else (if a0 > a1 then (some 1) else (some 0))))) = some r := H
 have A4 := Aside0.mk A40
 clear A40
 by_cases c5 : t569 = true
 ·subst c5
  have H1 : (if t570 = true then (some 0) else (some (-1))) = some r := by rw [if_pos rfl] at H; exact H
  clear H
  have H := H1
  clear H1
  by_cases c6 : t570 = true
  ·subst c6
   have H1 : (some 0) = some r := by rw [if_pos rfl] at H; exact H
   clear H
   have H := H1
   clear H1
   obtain rfl := Option.some.inj H
   go_enter Try.func137, Try.ntmps137
   go_wp2_with (first | ((with_reducible refine gate_callee (f := 158) rfl ?_); refine goesL_ (some 8) rfl rfl Try.func158 (by kernel_rfl) rfl #[.int .i64 a0] rfl (by (try simp only [List.map_toArray, List.map_cons, List.map_nil]); first | done | rfl | (simp only [List.length_drop, List.length_take]; rfl)) ?_; (with_reducible refine (cmp_isNaN_int.calls a0 true _ A3.out).mono ?_); rintro e w' ⟨rfl, ⟨nd, rfl⟩⟩; refine ⟨_, rfl, ?_⟩) | ((with_reducible refine gate_callee (f := 158) rfl ?_); refine goesL_ (some 10) rfl rfl Try.func158 (by kernel_rfl) rfl #[.int .i64 a1] rfl (by (try simp only [List.map_toArray, List.map_cons, List.map_nil]); first | done | rfl | (simp only [List.length_drop, List.length_take]; rfl)) ?_; (with_reducible refine (cmp_isNaN_int.calls a1 true _ A4.out).mono ?_); rintro e w' ⟨rfl, ⟨nd, rfl⟩⟩; refine ⟨_, rfl, ?_⟩))
   go_ret
   exact ⟨by first | rfl | (simp; done) | (simp [*]; done), by repeat (first | exact Drawn0.refl _ | apply Drawn0.step)⟩
  ·replace c6 := Bool.eq_false_iff.mpr c6
   subst c6
   have H1 : (some (-1)) = some r := by rw [if_neg (show ¬ (false = true) by decide)] at H; exact H
   clear H
   have H := H1
   clear H1
   obtain rfl := Option.some.inj H
   go_enter Try.func137, Try.ntmps137
   go_wp2_with (first | ((with_reducible refine gate_callee (f := 158) rfl ?_); refine goesL_ (some 8) rfl rfl Try.func158 (by kernel_rfl) rfl #[.int .i64 a0] rfl (by (try simp only [List.map_toArray, List.map_cons, List.map_nil]); first | done | rfl | (simp only [List.length_drop, List.length_take]; rfl)) ?_; (with_reducible refine (cmp_isNaN_int.calls a0 true _ A3.out).mono ?_); rintro e w' ⟨rfl, ⟨nd, rfl⟩⟩; refine ⟨_, rfl, ?_⟩) | ((with_reducible refine gate_callee (f := 158) rfl ?_); refine goesL_ (some 10) rfl rfl Try.func158 (by kernel_rfl) rfl #[.int .i64 a1] rfl (by (try simp only [List.map_toArray, List.map_cons, List.map_nil]); first | done | rfl | (simp only [List.length_drop, List.length_take]; rfl)) ?_; (with_reducible refine (cmp_isNaN_int.calls a1 false _ A4.out).mono ?_); rintro e w' ⟨rfl, ⟨nd, rfl⟩⟩; refine ⟨_, rfl, ?_⟩))
   go_ret
   exact ⟨by first | rfl | (simp; done) | (simp [*]; done), by repeat (first | exact Drawn0.refl _ | apply Drawn0.step)⟩
 ·replace c5 := Bool.eq_false_iff.mpr c5
  subst c5
  have H1 : (if t570 = true then (some 1) else (if a0 < a1 then (some (-1)) else (if a0 > a1 then (some 1) else (some 0)))) = some r := by rw [if_neg (show ¬ (false = true) by decide)] at H; exact H
  clear H
  have H := H1
  clear H1
  by_cases c7 : t570 = true
  ·subst c7
   have H1 : (some 1) = some r := by rw [if_pos rfl] at H; exact H
   clear H
   have H := H1
   clear H1
   obtain rfl := Option.some.inj H
   go_enter Try.func137, Try.ntmps137
   go_wp2_with (first | ((with_reducible refine gate_callee (f := 158) rfl ?_); refine goesL_ (some 8) rfl rfl Try.func158 (by kernel_rfl) rfl #[.int .i64 a0] rfl (by (try simp only [List.map_toArray, List.map_cons, List.map_nil]); first | done | rfl | (simp only [List.length_drop, List.length_take]; rfl)) ?_; (with_reducible refine (cmp_isNaN_int.calls a0 false _ A3.out).mono ?_); rintro e w' ⟨rfl, ⟨nd, rfl⟩⟩; refine ⟨_, rfl, ?_⟩) | ((with_reducible refine gate_callee (f := 158) rfl ?_); refine goesL_ (some 10) rfl rfl Try.func158 (by kernel_rfl) rfl #[.int .i64 a1] rfl (by (try simp only [List.map_toArray, List.map_cons, List.map_nil]); first | done | rfl | (simp only [List.length_drop, List.length_take]; rfl)) ?_; (with_reducible refine (cmp_isNaN_int.calls a1 true _ A4.out).mono ?_); rintro e w' ⟨rfl, ⟨nd, rfl⟩⟩; refine ⟨_, rfl, ?_⟩))
   go_ret
   exact ⟨by first | rfl | (simp; done) | (simp [*]; done), by repeat (first | exact Drawn0.refl _ | apply Drawn0.step)⟩
  ·replace c7 := Bool.eq_false_iff.mpr c7
   subst c7
   have H1 : (if a0 < a1 then (some (-1)) else (if a0 > a1 then (some 1) else (some 0))) = some r := by rw [if_neg (show ¬ (false = true) by decide)] at H; exact H
   clear H
   have H := H1
   clear H1
   by_cases c8 : a0 < a1
   ·rw [if_pos c8] at H
    have c8b0 : decide (a0 < a1) = true := decide_eq_true c8
    clear c8
    obtain rfl := Option.some.inj H
    go_enter Try.func137, Try.ntmps137
    go_wp2_with (first | ((with_reducible refine gate_callee (f := 158) rfl ?_); refine goesL_ (some 8) rfl rfl Try.func158 (by kernel_rfl) rfl #[.int .i64 a0] rfl (by (try simp only [List.map_toArray, List.map_cons, List.map_nil]); first | done | rfl | (simp only [List.length_drop, List.length_take]; rfl)) ?_; (with_reducible refine (cmp_isNaN_int.calls a0 false _ A3.out).mono ?_); rintro e w' ⟨rfl, ⟨nd, rfl⟩⟩; refine ⟨_, rfl, ?_⟩) | ((with_reducible refine gate_callee (f := 158) rfl ?_); refine goesL_ (some 10) rfl rfl Try.func158 (by kernel_rfl) rfl #[.int .i64 a1] rfl (by (try simp only [List.map_toArray, List.map_cons, List.map_nil]); first | done | rfl | (simp only [List.length_drop, List.length_take]; rfl)) ?_; (with_reducible refine (cmp_isNaN_int.calls a1 false _ A4.out).mono ?_); rintro e w' ⟨rfl, ⟨nd, rfl⟩⟩; refine ⟨_, rfl, ?_⟩))
    go_ret
    exact ⟨by first | rfl | (simp; done) | (simp [*]; done), by repeat (first | exact Drawn0.refl _ | apply Drawn0.step)⟩
   ·rw [if_neg c8] at H
    have c8b0 : decide (a0 < a1) = false := decide_eq_false c8
    clear c8
    by_cases c9 : a0 > a1
    ·rw [if_pos c9] at H
     have c9b0 : decide (a1 < a0) = true := decide_eq_true c9
     clear c9
     obtain rfl := Option.some.inj H
     go_enter Try.func137, Try.ntmps137
     go_wp2_with (first | ((with_reducible refine gate_callee (f := 158) rfl ?_); refine goesL_ (some 8) rfl rfl Try.func158 (by kernel_rfl) rfl #[.int .i64 a0] rfl (by (try simp only [List.map_toArray, List.map_cons, List.map_nil]); first | done | rfl | (simp only [List.length_drop, List.length_take]; rfl)) ?_; (with_reducible refine (cmp_isNaN_int.calls a0 false _ A3.out).mono ?_); rintro e w' ⟨rfl, ⟨nd, rfl⟩⟩; refine ⟨_, rfl, ?_⟩) | ((with_reducible refine gate_callee (f := 158) rfl ?_); refine goesL_ (some 10) rfl rfl Try.func158 (by kernel_rfl) rfl #[.int .i64 a1] rfl (by (try simp only [List.map_toArray, List.map_cons, List.map_nil]); first | done | rfl | (simp only [List.length_drop, List.length_take]; rfl)) ?_; (with_reducible refine (cmp_isNaN_int.calls a1 false _ A4.out).mono ?_); rintro e w' ⟨rfl, ⟨nd, rfl⟩⟩; refine ⟨_, rfl, ?_⟩))
     go_ret
     exact ⟨by first | rfl | (simp; done) | (simp [*]; done), by repeat (first | exact Drawn0.refl _ | apply Drawn0.step)⟩
    ·rw [if_neg c9] at H
     have c9b0 : decide (a1 < a0) = false := decide_eq_false c9
     clear c9
     obtain rfl := Option.some.inj H
     go_enter Try.func137, Try.ntmps137
     go_wp2_with (first | ((with_reducible refine gate_callee (f := 158) rfl ?_); refine goesL_ (some 8) rfl rfl Try.func158 (by kernel_rfl) rfl #[.int .i64 a0] rfl (by (try simp only [List.map_toArray, List.map_cons, List.map_nil]); first | done | rfl | (simp only [List.length_drop, List.length_take]; rfl)) ?_; (with_reducible refine (cmp_isNaN_int.calls a0 false _ A3.out).mono ?_); rintro e w' ⟨rfl, ⟨nd, rfl⟩⟩; refine ⟨_, rfl, ?_⟩) | ((with_reducible refine gate_callee (f := 158) rfl ?_); refine goesL_ (some 10) rfl rfl Try.func158 (by kernel_rfl) rfl #[.int .i64 a1] rfl (by (try simp only [List.map_toArray, List.map_cons, List.map_nil]); first | done | rfl | (simp only [List.length_drop, List.length_take]; rfl)) ?_; (with_reducible refine (cmp_isNaN_int.calls a1 false _ A4.out).mono ?_); rintro e w' ⟨rfl, ⟨nd, rfl⟩⟩; refine ⟨_, rfl, ?_⟩))
     go_ret
     exact ⟨by first | rfl | (simp; done) | (simp [*]; done), by repeat (first | exact Drawn0.refl _ | apply Drawn0.step)⟩

/-! ### impl_compare: function 97 -/
def impl_compare.l0 : Nat → List (S86) → List (S86) → Int → Int → Option (Int)
 | 0, _, _, _, _ => none
 | k + 1, x0, x1, x11, x12 => if x12 < x11 then (if 0 ≤ x12 then (if x12 < (x0.length : Int) then (if x12 < (x1.length : Int) then ((cmp_Compare_string.f ((rd_T86 x0 x12).f0) ((rd_T86 x1 x12).f0)).bind fun t574 => ((cmp_Compare_string.f ((rd_T86 x0 x12).f1) ((rd_T86 x1 x12).f1)).bind fun t577 => ((cmp_Or_int.f k (([t574, t577] : List Int))).bind fun t581 => (if t581 = 0 then (impl_compare.l0 k x0 x1 x11 (wrap64 (x12 + 1))) else (some t581))))) else (none)) else (none)) else (none)) else ((cmp_Compare_int.f (x0.length : Int) (x1.length : Int)).bind fun t571 => (some t571))
def impl_compare.f (k : Nat) (l0 : List (S86)) (l1 : List (S86)) : Option (Int) := impl_compare.l0 k l0 l1 (mn (l0.length : Int) (l1.length : Int)) 0
theorem impl_compare.mono_l : ∀ k, (∀ y0 y1 y2 y3, LeO (impl_compare.l0 k y0 y1 y2 y3) (impl_compare.l0 (k + 1) y0 y1 y2 y3))
 | 0 => fun _ _ _ _ r h => by simp [impl_compare.l0] at h
 | k + 1 => by
  have ih0 := impl_compare.mono_l k
  ·intro y0 y1 y2 y3
   unfold impl_compare.l0
   repeat' first
   | (with_reducible exact ih0 _ _ _ _)
   | (with_reducible exact cmp_Or_int.mono _ _)
   | (with_reducible exact LeO.refl _)
   | (with_reducible exact LeO.none _)
   | (with_reducible refine LeO.ite ?_ ?_)
   | (with_reducible refine LeO.bind ?_ (fun _ => ?_))
   | exact ih0 _ _ _ _
   | exact cmp_Or_int.mono _ _
   | exact LeO.none _
   | refine LeO.ite ?_ ?_
   | refine LeO.bind ?_ (fun _ => ?_)
theorem impl_compare.mono : ∀ a0 a1 k, LeO (impl_compare.f k a0 a1) (impl_compare.f (k + 1) a0 a1) := by
 intro a0 a1 k
 have ih0 := impl_compare.mono_l k
 unfold impl_compare.f
 repeat' first
   | (with_reducible exact ih0 _ _ _ _)
   | (with_reducible exact cmp_Or_int.mono _ _)
   | (with_reducible exact LeO.refl _)
   | (with_reducible exact LeO.none _)
   | (with_reducible refine LeO.ite ?_ ?_)
   | (with_reducible refine LeO.bind ?_ (fun _ => ?_))
   | exact ih0 _ _ _ _
   | exact cmp_Or_int.mono _ _
   | exact LeO.none _
   | refine LeO.ite ?_ ?_
   | refine LeO.bind ?_ (fun _ => ?_)
def impl_compare.T4 : Bool × List (List Nat × List Nat) := (true, [([], []), ([], []), ([0, 1], [0, 1]), ([2], [2]), ([3], [3]), ([], []), ([], []), ([5, 6], [5, 6]), ([7], [7]), ([8], [8]), ([4, 9], [4, 9]), ([], []), ([], []), ([11, 12], [11, 12]), ([13], [13]), ([14], [14]), ([], []), ([], []), ([16, 17], [16, 17]), ([18], [18]), ([19], [19]), ([15, 20, 10], [15, 20]), ([10, 21], [10, 21]), ([22, 21], [22]), ([23, 23, 0, 1, 2, 3, 4, 5, 6, 7, 8, 9, 10, 11, 12, 13, 14, 15, 16, 17, 18, 19, 20, 21, 22, 23], [23])])
def impl_compare.B4 : List Nat := [0, 0, 3, 7, 15, 0, 0, 96, 224, 480, 1023, 0, 0, 6144, 14336, 30720, 0, 0, 196608, 458752, 983040, 2097151, 4194303, 8388607, 16777215]
theorem impl_compare.tab4 : rtab .any (opsOf Try.f97 4) = impl_compare.T4 := by kernel_rfl
theorem impl_compare.bits4 : waitsOk impl_compare.T4.2 impl_compare.B4 = true := by kernel_rfl
set_option maxHeartbeats 8000000 in
set_option maxRecDepth 100000 in
theorem impl_compare.calls (k : Nat) (A0 : Option Addr) (c0 : Nat) (l0 : List (S86)) (A1 : Option Addr) (c1 : Nat) (l1 : List (S86)) (r : Int) (w : World) (hr0 : Kd.C k86 w A0 l0.length l0) (hc0 : l0.length ≤ c0) (hr1 : Kd.C k86 w A1 l1.length l1) (hc1 : l1.length ≤ c1) (h : impl_compare.f k l0 l1 = some r) :
  Calls Try.prog 97 #[.slice A0 l0.length c0, .slice A1 l1.length c1] w fun e w' => e = .returned (.int .i64 r) ∧ Below w.heap.size w w' := by
 have HR0 := Aside0.mk hr0
 have HC0 := Aside0.mk hc0
 clear hr0 hc0
 have HR1 := Aside0.mk hr1
 have HC1 := Aside0.mk hc1
 clear hr1 hc1
 have HB := Aside0.mk (Below.refl w.heap.size w)
 have H : (impl_compare.l0 k l0 l1 (mn (l0.length : Int) (l1.length : Int)) 0) = some r := h
 clear h
 obtain ⟨ji3, hji3⟩ : ∃ j_ : Int, (mn (l0.length : Int) (l1.length : Int)) = j_ := ⟨_, rfl⟩
 replace H : (impl_compare.l0 k l0 l1 ji3 0) = some r := by first | (rw [hji3] at H; exact H) | (simp only [hji3] at H ⊢; exact H)
 (try (have hji3l : 0 ≤ ji3 := by (rw [← hji3]; unfold mn; (repeat' split) <;> omega)))
 (try (have hji3m : 0 ≤ ji3 := by omega))
 have hji3_ : (if (l1.length : Int) < (l0.length : Int) then (l1.length : Int) else (l0.length : Int)) = ji3 := hji3
 have hji3n_ : (if l1.length < l0.length then (l1.length : Int) else (l0.length : Int)) = ji3 := by rw [← hji3_]; split <;> split <;> omega
 have H' := Aside0.mk H
 clear H
 go_enter Try.func97, Try.ntmps97
 go_wp2
 go_loopg [12] k (fun kq v12 w' => ∃ (x12_1 : Int), v12 = .int .i64 x12_1 ∧ Aside0 (impl_compare.l0 kq l0 l1 ji3 x12_1 = some r) ∧ Aside0 (kq ≤ k) ∧ Aside0 (Below w.heap.size w w'))
 case atStart => exact ⟨(0), (by first | rfl | (simp; done) | (simp [*]; done)), H', ⟨Nat.le_refl _⟩, ⟨bl_⟩⟩
 case round =>
  clear H'
  try clear c1
  try clear p2
  obtain ⟨x12_1, rfl, HA, HK1, HB⟩ := hrel
  cases gk with
  | zero => exact absurd HA.out (by simp [impl_compare.l0])
  | succ k1 =>
   have H := HA.out
   clear HA
   simp only [impl_compare.l0] at H
   by_cases c4 : x12_1 < ji3
   ·rw [if_pos c4] at H
    have c4b0 : decide (x12_1 < ji3) = true := decide_eq_true c4
    clear c4
    by_cases c5 : 0 ≤ x12_1
    ·rw [if_pos c5] at H
     have c5b0 : decide (0 ≤ x12_1) = true := decide_eq_true c5
     clear c5
     by_cases c6 : x12_1 < (l0.length : Int)
     ·rw [if_pos c6] at H
      have c6b0 : decide (x12_1 < (l0.length : Int)) = true := decide_eq_true c6
      clear c6
      by_cases c7 : x12_1 < (l1.length : Int)
      ·rw [if_pos c7] at H
       have c7b0 : decide (x12_1 < (l1.length : Int)) = true := decide_eq_true c7
       clear c7
       replace H := Option.bind_eq_some_iff.mp H
       obtain ⟨t574, A80, H⟩ := H
       replace H : ((cmp_Compare_string.f ((rd_T86 l0 x12_1).f1) ((rd_T86 l1 x12_1).f1)).bind fun t577 => ((cmp_Or_int.f k1 (([t574, t577] : List Int))).bind fun t581 => (if t581 = 0 then (impl_compare.l0 k1 l0 l1 ji3 (wrap64 (x12_1 + 1))) else (some t581)))) = some r := H
       have A8 := Aside0.mk A80
       clear A80
       replace H := Option.bind_eq_some_iff.mp H
       obtain ⟨t577, A90, H⟩ := H
       replace H : ((cmp_Or_int.f k1 (([t574, t577] : List Int))).bind fun t581 => (if t581 = 0 then (impl_compare.l0 k1 l0 l1 ji3 (wrap64 (x12_1 + 1))) else (some t581))) = some r := H
       have A9 := Aside0.mk A90
       clear A90
       obtain ⟨y578, hy578⟩ : ∃ y_ : List Int, y_ = (([t574, t577] : List Int)) := ⟨_, rfl⟩
       replace H : ((cmp_Or_int.f k1 y578).bind fun t581 => (if t581 = 0 then (impl_compare.l0 k1 l0 l1 ji3 (wrap64 (x12_1 + 1))) else (some t581))) = some r := by first | (rw [hy578]; with_reducible exact H) | (have H2_ := (Option.bind_some _ _).symm.trans H; rw [hy578]; with_reducible exact H2_) | (have H2_ := (Option.bind_some _ _).symm.trans H; with_reducible exact H2_) | with_reducible exact H | (rw [hy578]; exact H) | exact H
       have Ny578 := Aside0.mk hy578
       clear hy578
       replace H := Option.bind_eq_some_iff.mp H
       obtain ⟨t581, A100, H⟩ := H
       replace H : (if t581 = 0 then (impl_compare.l0 k1 l0 l1 ji3 (wrap64 (x12_1 + 1))) else (some t581)) = some r := H
       have A10 := Aside0.mk A100
       clear A100
       by_cases c11 : t581 = 0
       ·rw [if_pos c11] at H
        have c11b0 : (t581 == 0) = true := beq_iff_eq.mpr c11
        have c11b1 : (t581 != 0) = false := bne_eq_false_iff_eq.mpr c11
        clear c11
        have H' := Aside0.mk H
        clear H
        try go_wp2
        have n0_ := Aside0.mk (below_drew1 HB.out)
        clear HB
        have HB := n0_
        clear n0_
        have p572 : 0 ≤ (x12_1 : Int) := od_
        have q572 : x12_1 < (l0.length : Int) := od_
        obtain ⟨ad572, e572, hx572_0, hx572_1⟩ := at_T86 HR0.out x12_1 p572 q572
        have hw572_1 := hx572_1
        have hw572_0 := hx572_0
        cases e572
        replace hx572_0 := kp_ HB hx572_0
        replace hx572_1 := kp_ HB hx572_1
        replace p572 := eq_true p572
        replace q572 := eq_true q572
        have p573 : 0 ≤ (x12_1 : Int) := od_
        have q573 : x12_1 < (l1.length : Int) := od_
        obtain ⟨ad573, e573, hx573_0, hx573_1⟩ := at_T86 HR1.out x12_1 p573 q573
        have hw573_1 := hx573_1
        have hw573_0 := hx573_0
        cases e573
        replace hx573_0 := kp_ HB hx573_0
        replace hx573_1 := kp_ HB hx573_1
        replace p573 := eq_true p573
        replace q573 := eq_true q573
        have p575 : 0 ≤ (x12_1 : Int) := od_
        have q575 : x12_1 < (l0.length : Int) := od_
        obtain ⟨ad575, e575, hx575_0, hx575_1⟩ := at_T86 HR0.out x12_1 p575 q575
        have hw575_1 := hx575_1
        have hw575_0 := hx575_0
        obtain rfl : ad572 = ad575 := (by injection e575)
        replace hx575_0 := kp_ HB hx575_0
        replace hx575_1 := kp_ HB hx575_1
        replace p575 := eq_true p575
        replace q575 := eq_true q575
        have p576 : 0 ≤ (x12_1 : Int) := od_
        have q576 : x12_1 < (l1.length : Int) := od_
        obtain ⟨ad576, e576, hx576_0, hx576_1⟩ := at_T86 HR1.out x12_1 p576 q576
        have hw576_1 := hx576_1
        have hw576_0 := hx576_0
        obtain rfl : ad573 = ad576 := (by injection e576)
        replace hx576_0 := kp_ HB hx576_0
        replace hx576_1 := kp_ HB hx576_1
        replace p576 := eq_true p576
        replace q576 := eq_true q576
        refine start_ (n := 25) (S := fun w' => w'.cell? (ad572.add ((x12_1).toNat * 2)) = some (.string ((rd_T86 l0 x12_1).f0)) ∧ w'.cell? ⟨(ad572.add ((x12_1).toNat * 2)).block, (ad572.add ((x12_1).toNat * 2)).off + 1, none⟩ = some (.string ((rd_T86 l0 x12_1).f1)) ∧ w'.cell? (ad573.add ((x12_1).toNat * 2)) = some (.string ((rd_T86 l1 x12_1).f0)) ∧ w'.cell? ⟨(ad573.add ((x12_1).toNat * 2)).block, (ad573.add ((x12_1).toNat * 2)).off + 1, none⟩ = some (.string ((rd_T86 l1 x12_1).f1)) ∧ w'.cell? (ad572.add ((x12_1).toNat * 2)) = some (.string ((rd_T86 l0 x12_1).f0)) ∧ w'.cell? ⟨(ad572.add ((x12_1).toNat * 2)).block, (ad572.add ((x12_1).toNat * 2)).off + 1, none⟩ = some (.string ((rd_T86 l0 x12_1).f1)) ∧ w'.cell? (ad573.add ((x12_1).toNat * 2)) = some (.string ((rd_T86 l1 x12_1).f0)) ∧ w'.cell? ⟨(ad573.add ((x12_1).toNat * 2)).block, (ad573.add ((x12_1).toNat * 2)).off + 1, none⟩ = some (.string ((rd_T86 l1 x12_1).f1))) (ds := []) (bz 25 0) (by kernel_rfl) rfl rfl ⟨(kp_ HB hw572_0 :), (kp_ HB hw572_1 :), (kp_ HB hw573_0 :), (kp_ HB hw573_1 :), (kp_ HB hw575_0 :), (kp_ HB hw575_1 :), (kp_ HB hw576_0 :), (kp_ HB hw576_1 :)⟩ (fun hHeld => ?_); refine with_tabW impl_compare.tab4 impl_compare.bits4 (fun HT_ HW_ => ?_)
        generalize wr.drew = w12 at HB hx572_0 hx572_1 hx573_0 hx573_1 hx575_0 hx575_1 hx576_0 hx576_1 hHeld ⊢
        refine pz_ 0 15 1 ?_
        refine pz_ 1 16 3 ?_
        refine pz_ 2 17 7 ?_
        refine pz_ 3 18 15 ?_
        refine pz_ 5 20 47 ?_
        refine pz_ 6 21 111 ?_
        refine pz_ 7 22 239 ?_
        refine pz_ 8 23 495 ?_
        refine pz_ 11 26 2543 ?_
        refine pz_ 12 27 6639 ?_
        refine pz_ 13 28 14831 ?_
        refine pz_ 14 29 31215 ?_
        refine pz_ 16 31 96751 ?_
        refine pz_ 17 32 227823 ?_
        refine pz_ 18 33 489967 ?_
        refine pz_ 19 34 1014255 ?_
        refine tz_ 4 19 1014271 ?_
        refine tz_ 9 24 1014783 ?_
        refine tz_ 15 30 1047551 ?_
        refine tz_ 20 35 2096127 ?_
        refine one_ (i := 10) (N := some 25) (bz 25 2097151) rfl rfl (one_of HT_.out (by kernel_rfl)) (by decide) (fun K hK => ?_)
        refine goes_ Try.func136 (by kernel_rfl) rfl #[.string ((rd_T86 l0 x12_1).f0), .string ((rd_T86 l1 x12_1).f0)] (by rfl) rfl rfl (by (try simp only [List.map_toArray, List.map_cons, List.map_nil]); first | done | rfl | (simp only [List.length_drop, List.length_take]; rfl)) ?_
        with_reducible refine (cmp_Compare_string.calls ((rd_T86 l0 x12_1).f0) ((rd_T86 l1 x12_1).f0) t574 _ A8.out).mono ?_
        rintro e w' ⟨rfl, ⟨nd, rfl⟩⟩
        refine ⟨_, rfl, ?_⟩
        refine hK.out _ _ ⟨(kp_ HB hw572_0 :), (kp_ HB hw572_1 :), (kp_ HB hw573_0 :), (kp_ HB hw573_1 :), (kp_ HB hw575_0 :), (kp_ HB hw575_1 :), (kp_ HB hw576_0 :), (kp_ HB hw576_1 :)⟩ (fun hHeld => ?_)
        clear hK K
        refine norm_ (a' := ?_) ?_ ?_
        rotate_left
        ·show Act.put _ (some 25) _ = _
         simp only [Act.put, List.setIfInBounds_toArray, List.set_cons_zero, List.set_cons_succ, i64_w, i32_w]
         rfl
        refine one_ (i := 21) (N := some 36) (bz 25 4194303) rfl rfl (one_of HT_.out (by kernel_rfl)) (by decide) (fun K hK => ?_)
        refine goes_ Try.func136 (by kernel_rfl) rfl #[.string ((rd_T86 l0 x12_1).f1), .string ((rd_T86 l1 x12_1).f1)] (by rfl) rfl rfl (by (try simp only [List.map_toArray, List.map_cons, List.map_nil]); first | done | rfl | (simp only [List.length_drop, List.length_take]; rfl)) ?_
        with_reducible refine (cmp_Compare_string.calls ((rd_T86 l0 x12_1).f1) ((rd_T86 l1 x12_1).f1) t577 _ A9.out).mono ?_
        rintro e w' ⟨rfl, ⟨nd, rfl⟩⟩
        refine ⟨_, rfl, ?_⟩
        refine hK.out _ _ ⟨(kp_ HB hw572_0 :), (kp_ HB hw572_1 :), (kp_ HB hw573_0 :), (kp_ HB hw573_1 :), (kp_ HB hw575_0 :), (kp_ HB hw575_1 :), (kp_ HB hw576_0 :), (kp_ HB hw576_1 :)⟩ (fun hHeld => ?_)
        clear hK K
        refine norm_ (a' := ?_) ?_ ?_
        rotate_left
        ·show Act.put _ (some 36) _ = _
         simp only [Act.put, List.setIfInBounds_toArray, List.set_cons_zero, List.set_cons_succ, i64_w, i32_w]
         rfl
        refine one_ (i := 22) (N := some 37) (bz 25 8388607) rfl rfl (one_of HT_.out (by kernel_rfl)) (by decide) (fun K hK => ?_)
        refine Kd.R_lit_step (Kd.int .i64) _ 3 ?hg (N := 37) ?hd (xs := ([t574, t577] : List Int)) (inner := [.int .i64 t574, .int .i64 t577]) (ok := fun _ => True) (okp := fun _ => True) ?hr ?hp (fun _ hk => hk) trivial (Below.refl _ _) (Nat.le_refl _) (by simp) ?_; (case hd => rfl); (case hg => rfl); (case hr => first | (go_simp; done) | (go_simp; rfl)); (case hp => exact (Reps.one (show Kd.M (Kd.int .i64) _ _ _ t574 [.int .i64 t574] from rfl) (Reps.one (show Kd.M (Kd.int .i64) _ _ _ t577 [.int .i64 t577] from rfl) (Reps.none _ _))))
        intro v579 w13 ho14 hb hg_ hnew_
        clear hg_ hnew_
        (first | rw [← Ny578.out] at ho14 | (simp only [Int.reduceToNat] at ho14; rw [← Ny578.out] at ho14))
        have n0_ := Aside0.mk (Kd.R_lower ho14 (below_size bl_))
        have n1_ := Aside0.mk (below_step bl_ hb)
        clear HB
        have HO580 := n0_
        have HB := n1_
        clear n0_ n1_
        clear hb ho14
        obtain ⟨Ao15, co15, eo15⟩ := Kd.R_slice HO580.out
        (first | subst eo15 | (injection eo15 with f1_ f2_ f3_; have f4_ := f1_.symm; have f5_ := f3_.symm; clear f1_ f2_ f3_; subst f4_; subst f5_))
        refine hK.out _ _ ⟨(kp_ HB hw572_0 :), (kp_ HB hw572_1 :), (kp_ HB hw573_0 :), (kp_ HB hw573_1 :), (kp_ HB hw575_0 :), (kp_ HB hw575_1 :), (kp_ HB hw576_0 :), (kp_ HB hw576_1 :)⟩ (fun hHeld => ?_)
        clear hK K
        refine norm_ (a' := ?_) ?_ ?_
        rotate_left
        ·show Act.put _ (some 37) _ = _
         simp only [Act.put, List.setIfInBounds_toArray, List.set_cons_zero, List.set_cons_succ, i64_w, i32_w]
         rfl
        refine one_ (i := 23) (N := some 38) (bz 25 16777215) rfl rfl (one_of HT_.out (by kernel_rfl)) (by decide) (fun K hK => ?_)
        refine goes_ Try.func135 (by kernel_rfl) rfl #[.slice Ao15 y578.length co15] (by rfl) rfl rfl (by (try simp only [List.map_toArray, List.map_cons, List.map_nil]); first | done | rfl | (simp only [List.length_drop, List.length_take]; rfl)) ?_
        with_reducible refine (cmp_Or_int.calls k1 _ _ y578 t581 _ ?side1 ?side2 A10.out).mono ?_
        (case side1 => repeat (first | exact (Kd.R_reads' HO580.out).2.2 | (with_reducible refine Kd.C_alloc ?_ _) | (with_reducible refine Kd.C_drewN ?_ _) | (with_reducible refine Kd.C_drew ?_)))
        (case side2 => exact (Kd.R_reads' HO580.out).2.1)
        rintro e w' ⟨rfl, ⟨nd, rfl⟩⟩
        refine ⟨_, rfl, ?_⟩
        refine hK.out _ _ ⟨(kp_ HB hw572_0 :), (kp_ HB hw572_1 :), (kp_ HB hw573_0 :), (kp_ HB hw573_1 :), (kp_ HB hw575_0 :), (kp_ HB hw575_1 :), (kp_ HB hw576_0 :), (kp_ HB hw576_1 :)⟩ (fun hHeld => ?_)
        clear hK K
        refine norm_ (a' := ?_) ?_ ?_
        rotate_left
        ·show Act.put _ (some 38) _ = _
         simp only [Act.put, List.setIfInBounds_toArray, List.set_cons_zero, List.set_cons_succ, i64_w, i32_w]
         rfl
        refine pz_ 24 6 33554431 ?_
        refine done_ (done_of HT_.out (by kernel_rfl)) ?_
        try go_wp2
        go_roundg k1
        case measure => have := HK1.out; omega
        case rel => exact ⟨(wrap64 (x12_1 + 1)), (by first | rfl | (simp; done) | (simp [*]; done)), H', ⟨by have := HK1.out; omega⟩, ⟨bl_⟩⟩
       ·rw [if_neg c11] at H
        have c11b0 : (t581 == 0) = false := beq_eq_false_iff_ne.mpr c11
        have c11b1 : (t581 != 0) = true := bne_iff_ne.mpr c11
        obtain rfl := Option.some.inj H
        try go_wp2
        have n0_ := Aside0.mk (below_drew1 HB.out)
        clear HB
        have HB := n0_
        clear n0_
        have p572 : 0 ≤ (x12_1 : Int) := od_
        have q572 : x12_1 < (l0.length : Int) := od_
        obtain ⟨ad572, e572, hx572_0, hx572_1⟩ := at_T86 HR0.out x12_1 p572 q572
        have hw572_1 := hx572_1
        have hw572_0 := hx572_0
        cases e572
        replace hx572_0 := kp_ HB hx572_0
        replace hx572_1 := kp_ HB hx572_1
        replace p572 := eq_true p572
        replace q572 := eq_true q572
        have p573 : 0 ≤ (x12_1 : Int) := od_
        have q573 : x12_1 < (l1.length : Int) := od_
        obtain ⟨ad573, e573, hx573_0, hx573_1⟩ := at_T86 HR1.out x12_1 p573 q573
        have hw573_1 := hx573_1
        have hw573_0 := hx573_0
        cases e573
        replace hx573_0 := kp_ HB hx573_0
        replace hx573_1 := kp_ HB hx573_1
        replace p573 := eq_true p573
        replace q573 := eq_true q573
        have p575 : 0 ≤ (x12_1 : Int) := od_
        have q575 : x12_1 < (l0.length : Int) := od_
        obtain ⟨ad575, e575, hx575_0, hx575_1⟩ := at_T86 HR0.out x12_1 p575 q575
        have hw575_1 := hx575_1
        have hw575_0 := hx575_0
        obtain rfl : ad572 = ad575 := (by injection e575)
        replace hx575_0 := kp_ HB hx575_0
        replace hx575_1 := kp_ HB hx575_1
        replace p575 := eq_true p575
        replace q575 := eq_true q575
        have p576 : 0 ≤ (x12_1 : Int) := od_
        have q576 : x12_1 < (l1.length : Int) := od_
        obtain ⟨ad576, e576, hx576_0, hx576_1⟩ := at_T86 HR1.out x12_1 p576 q576
        have hw576_1 := hx576_1
        have hw576_0 := hx576_0
        obtain rfl : ad573 = ad576 := (by injection e576)
        replace hx576_0 := kp_ HB hx576_0
        replace hx576_1 := kp_ HB hx576_1
        replace p576 := eq_true p576
        replace q576 := eq_true q576
        refine start_ (n := 25) (S := fun w' => w'.cell? (ad572.add ((x12_1).toNat * 2)) = some (.string ((rd_T86 l0 x12_1).f0)) ∧ w'.cell? ⟨(ad572.add ((x12_1).toNat * 2)).block, (ad572.add ((x12_1).toNat * 2)).off + 1, none⟩ = some (.string ((rd_T86 l0 x12_1).f1)) ∧ w'.cell? (ad573.add ((x12_1).toNat * 2)) = some (.string ((rd_T86 l1 x12_1).f0)) ∧ w'.cell? ⟨(ad573.add ((x12_1).toNat * 2)).block, (ad573.add ((x12_1).toNat * 2)).off + 1, none⟩ = some (.string ((rd_T86 l1 x12_1).f1)) ∧ w'.cell? (ad572.add ((x12_1).toNat * 2)) = some (.string ((rd_T86 l0 x12_1).f0)) ∧ w'.cell? ⟨(ad572.add ((x12_1).toNat * 2)).block, (ad572.add ((x12_1).toNat * 2)).off + 1, none⟩ = some (.string ((rd_T86 l0 x12_1).f1)) ∧ w'.cell? (ad573.add ((x12_1).toNat * 2)) = some (.string ((rd_T86 l1 x12_1).f0)) ∧ w'.cell? ⟨(ad573.add ((x12_1).toNat * 2)).block, (ad573.add ((x12_1).toNat * 2)).off + 1, none⟩ = some (.string ((rd_T86 l1 x12_1).f1))) (ds := []) (bz 25 0) (by kernel_rfl) rfl rfl ⟨(kp_ HB hw572_0 :), (kp_ HB hw572_1 :), (kp_ HB hw573_0 :), (kp_ HB hw573_1 :), (kp_ HB hw575_0 :), (kp_ HB hw575_1 :), (kp_ HB hw576_0 :), (kp_ HB hw576_1 :)⟩ (fun hHeld => ?_); refine with_tabW impl_compare.tab4 impl_compare.bits4 (fun HT_ HW_ => ?_)
        generalize wr.drew = w16 at HB hx572_0 hx572_1 hx573_0 hx573_1 hx575_0 hx575_1 hx576_0 hx576_1 hHeld ⊢
        refine pz_ 0 15 1 ?_
        refine pz_ 1 16 3 ?_
        refine pz_ 2 17 7 ?_
        refine pz_ 3 18 15 ?_
        refine pz_ 5 20 47 ?_
        refine pz_ 6 21 111 ?_
        refine pz_ 7 22 239 ?_
        refine pz_ 8 23 495 ?_
        refine pz_ 11 26 2543 ?_
        refine pz_ 12 27 6639 ?_
        refine pz_ 13 28 14831 ?_
        refine pz_ 14 29 31215 ?_
        refine pz_ 16 31 96751 ?_
        refine pz_ 17 32 227823 ?_
        refine pz_ 18 33 489967 ?_
        refine pz_ 19 34 1014255 ?_
        refine tz_ 4 19 1014271 ?_
        refine tz_ 9 24 1014783 ?_
        refine tz_ 15 30 1047551 ?_
        refine tz_ 20 35 2096127 ?_
        refine one_ (i := 10) (N := some 25) (bz 25 2097151) rfl rfl (one_of HT_.out (by kernel_rfl)) (by decide) (fun K hK => ?_)
        refine goes_ Try.func136 (by kernel_rfl) rfl #[.string ((rd_T86 l0 x12_1).f0), .string ((rd_T86 l1 x12_1).f0)] (by rfl) rfl rfl (by (try simp only [List.map_toArray, List.map_cons, List.map_nil]); first | done | rfl | (simp only [List.length_drop, List.length_take]; rfl)) ?_
        with_reducible refine (cmp_Compare_string.calls ((rd_T86 l0 x12_1).f0) ((rd_T86 l1 x12_1).f0) t574 _ A8.out).mono ?_
        rintro e w' ⟨rfl, ⟨nd, rfl⟩⟩
        refine ⟨_, rfl, ?_⟩
        refine hK.out _ _ ⟨(kp_ HB hw572_0 :), (kp_ HB hw572_1 :), (kp_ HB hw573_0 :), (kp_ HB hw573_1 :), (kp_ HB hw575_0 :), (kp_ HB hw575_1 :), (kp_ HB hw576_0 :), (kp_ HB hw576_1 :)⟩ (fun hHeld => ?_)
        clear hK K
        refine norm_ (a' := ?_) ?_ ?_
        rotate_left
        ·show Act.put _ (some 25) _ = _
         simp only [Act.put, List.setIfInBounds_toArray, List.set_cons_zero, List.set_cons_succ, i64_w, i32_w]
         rfl
        refine one_ (i := 21) (N := some 36) (bz 25 4194303) rfl rfl (one_of HT_.out (by kernel_rfl)) (by decide) (fun K hK => ?_)
        refine goes_ Try.func136 (by kernel_rfl) rfl #[.string ((rd_T86 l0 x12_1).f1), .string ((rd_T86 l1 x12_1).f1)] (by rfl) rfl rfl (by (try simp only [List.map_toArray, List.map_cons, List.map_nil]); first | done | rfl | (simp only [List.length_drop, List.length_take]; rfl)) ?_
        with_reducible refine (cmp_Compare_string.calls ((rd_T86 l0 x12_1).f1) ((rd_T86 l1 x12_1).f1) t577 _ A9.out).mono ?_
        rintro e w' ⟨rfl, ⟨nd, rfl⟩⟩
        refine ⟨_, rfl, ?_⟩
        refine hK.out _ _ ⟨(kp_ HB hw572_0 :), (kp_ HB hw572_1 :), (kp_ HB hw573_0 :), (kp_ HB hw573_1 :), (kp_ HB hw575_0 :), (kp_ HB hw575_1 :), (kp_ HB hw576_0 :), (kp_ HB hw576_1 :)⟩ (fun hHeld => ?_)
        clear hK K
        refine norm_ (a' := ?_) ?_ ?_
        rotate_left
        ·show Act.put _ (some 36) _ = _
         simp only [Act.put, List.setIfInBounds_toArray, List.set_cons_zero, List.set_cons_succ, i64_w, i32_w]
         rfl
        refine one_ (i := 22) (N := some 37) (bz 25 8388607) rfl rfl (one_of HT_.out (by kernel_rfl)) (by decide) (fun K hK => ?_)
        refine Kd.R_lit_step (Kd.int .i64) _ 3 ?hg (N := 37) ?hd (xs := ([t574, t577] : List Int)) (inner := [.int .i64 t574, .int .i64 t577]) (ok := fun _ => True) (okp := fun _ => True) ?hr ?hp (fun _ hk => hk) trivial (Below.refl _ _) (Nat.le_refl _) (by simp) ?_; (case hd => rfl); (case hg => rfl); (case hr => first | (go_simp; done) | (go_simp; rfl)); (case hp => exact (Reps.one (show Kd.M (Kd.int .i64) _ _ _ t574 [.int .i64 t574] from rfl) (Reps.one (show Kd.M (Kd.int .i64) _ _ _ t577 [.int .i64 t577] from rfl) (Reps.none _ _))))
        intro v579 w17 ho18 hb hg_ hnew_
        clear hg_ hnew_
        (first | rw [← Ny578.out] at ho18 | (simp only [Int.reduceToNat] at ho18; rw [← Ny578.out] at ho18))
        have n0_ := Aside0.mk (Kd.R_lower ho18 (below_size bl_))
        have n1_ := Aside0.mk (below_step bl_ hb)
        clear HB
        have HO580 := n0_
        have HB := n1_
        clear n0_ n1_
        clear hb ho18
        obtain ⟨Ao19, co19, eo19⟩ := Kd.R_slice HO580.out
        (first | subst eo19 | (injection eo19 with f1_ f2_ f3_; have f4_ := f1_.symm; have f5_ := f3_.symm; clear f1_ f2_ f3_; subst f4_; subst f5_))
        refine hK.out _ _ ⟨(kp_ HB hw572_0 :), (kp_ HB hw572_1 :), (kp_ HB hw573_0 :), (kp_ HB hw573_1 :), (kp_ HB hw575_0 :), (kp_ HB hw575_1 :), (kp_ HB hw576_0 :), (kp_ HB hw576_1 :)⟩ (fun hHeld => ?_)
        clear hK K
        refine norm_ (a' := ?_) ?_ ?_
        rotate_left
        ·show Act.put _ (some 37) _ = _
         simp only [Act.put, List.setIfInBounds_toArray, List.set_cons_zero, List.set_cons_succ, i64_w, i32_w]
         rfl
        refine one_ (i := 23) (N := some 38) (bz 25 16777215) rfl rfl (one_of HT_.out (by kernel_rfl)) (by decide) (fun K hK => ?_)
        refine goes_ Try.func135 (by kernel_rfl) rfl #[.slice Ao19 y578.length co19] (by rfl) rfl rfl (by (try simp only [List.map_toArray, List.map_cons, List.map_nil]); first | done | rfl | (simp only [List.length_drop, List.length_take]; rfl)) ?_
        with_reducible refine (cmp_Or_int.calls k1 _ _ y578 t581 _ ?side1 ?side2 A10.out).mono ?_
        (case side1 => repeat (first | exact (Kd.R_reads' HO580.out).2.2 | (with_reducible refine Kd.C_alloc ?_ _) | (with_reducible refine Kd.C_drewN ?_ _) | (with_reducible refine Kd.C_drew ?_)))
        (case side2 => exact (Kd.R_reads' HO580.out).2.1)
        rintro e w' ⟨rfl, ⟨nd, rfl⟩⟩
        refine ⟨_, rfl, ?_⟩
        refine hK.out _ _ ⟨(kp_ HB hw572_0 :), (kp_ HB hw572_1 :), (kp_ HB hw573_0 :), (kp_ HB hw573_1 :), (kp_ HB hw575_0 :), (kp_ HB hw575_1 :), (kp_ HB hw576_0 :), (kp_ HB hw576_1 :)⟩ (fun hHeld => ?_)
        clear hK K
        refine norm_ (a' := ?_) ?_ ?_
        rotate_left
        ·show Act.put _ (some 38) _ = _
         simp only [Act.put, List.setIfInBounds_toArray, List.set_cons_zero, List.set_cons_succ, i64_w, i32_w]
         rfl
        refine pz_ 24 6 33554431 ?_
        refine done_ (done_of HT_.out (by kernel_rfl)) ?_
        try go_wp2
        go_ret
        exact ⟨by first | rfl | (simp [errW_none, errW_some] <;> rfl) | (simp only [← hji3]; first | rfl | (simp [errW_none, errW_some] <;> rfl)) | (simp [*, errW_none, errW_some] <;> rfl) | (simp [*, Go.Proofs.Ythgeohdpjedhnaa.Gt.nil_bne]; done), bl_⟩
      ·rw [if_neg c7] at H
       exact absurd H (by simp)
     ·rw [if_neg c6] at H
      exact absurd H (by simp)
    ·rw [if_neg c5] at H
     exact absurd H (by simp)
   ·rw [if_neg c4] at H
    have c4b0 : decide (x12_1 < ji3) = false := decide_eq_false c4
    clear c4
    replace H := Option.bind_eq_some_iff.mp H
    obtain ⟨t571, A200, H⟩ := H
    replace H : (some t571) = some r := H
    have A20 := Aside0.mk A200
    clear A200
    obtain rfl := Option.some.inj H
    go_wp2_with (first | ((with_reducible refine gate_callee (f := 137) rfl ?_); refine goesL_ (some 47) rfl rfl Try.func137 (by kernel_rfl) rfl #[.int .i64 (l0.length : Int), .int .i64 (l1.length : Int)] rfl (by (try simp only [List.map_toArray, List.map_cons, List.map_nil]); first | done | rfl | (simp only [List.length_drop, List.length_take]; rfl)) ?_; (with_reducible refine (cmp_Compare_int.calls (l0.length : Int) (l1.length : Int) t571 _ A20.out).mono ?_); rintro e w' ⟨rfl, ⟨nd, rfl⟩⟩; refine ⟨_, rfl, ?_⟩))
    go_ret
    exact ⟨by first | rfl | (simp [errW_none, errW_some] <;> rfl) | (simp only [← hji3]; first | rfl | (simp [errW_none, errW_some] <;> rfl)) | (simp [*, errW_none, errW_some] <;> rfl) | (simp [*, Go.Proofs.Ythgeohdpjedhnaa.Gt.nil_bne]; done), bl_⟩

end Go.Proofs.Ythgeohdpjedhnaa.Pr
