/- Functions of the given program as plain Lean functions, and that the machine's calls come to them; written by a program of this session; no condition but those that each theorem states. -/
import Derived.Test.YtjapdjkckhcelaaPrx0
namespace Go.Proofs.Ytjapdjkckhcelaa.Pr
open Go.RowKit Go.Proofs.YtjapdjkckhcelaaW.PrintWords Go.Proofs.YtjapdjkckhcelaaW.PrintLast Go.Proofs.YtjapdjkckhcelaaW.PrintMore
attribute [local go_sem] max2_int min2_int max_two min_two max_three min_three max_four min_four   -- for this text's walks alone
set_option linter.unusedVariables false
set_option linter.unusedSimpArgs false

/-! ### impl_merge: function 82 -/
mutual
def impl_merge.l0 : Nat → List (S37) → List (S37) → List (S37) → Option ((List (S37)))
  | 0, _, _, _ => none
  | k + 1, x0, x1, x5 => if (x0.length : Int) > 0 then (impl_merge.j1 k x0 x1 x5 true) else (impl_merge.j1 k x0 x1 x5 (decide ((x1.length : Int) > 0)))
def impl_merge.j1 : Nat → List (S37) → List (S37) → List (S37) → Bool → Option ((List (S37)))
  | 0, _, _, _, _ => none
  | k + 1, x0, x1, x5, x13 => if x13 = true then (if (x1.length : Int) = 0 then (impl_merge.j2 k x0 x1 x5 true) else (if (x0.length : Int) > 0 then (if 0 < (x0.length : Int) then (if 0 < (x1.length : Int) then (impl_merge.j2 k x0 x1 x5 (decide (((rd_T37 x0 0).f0) ≤ ((rd_T37 x1 0).f0)))) else (none)) else (none)) else (impl_merge.j2 k x0 x1 x5 false))) else (some x5)
def impl_merge.j2 : Nat → List (S37) → List (S37) → List (S37) → Bool → Option ((List (S37)))
  | 0, _, _, _, _ => none
  | k + 1, x0, x1, x5, x32 => if x32 = true then (if (x1.length : Int) > 0 then (if 0 < (x0.length : Int) then (if 0 < (x1.length : Int) then (if ((rd_T37 x0 0).f0) = ((rd_T37 x1 0).f0) then (if 1 ≤ (x1.length : Int) then (if x5.length < 8796093022208 then (if 1 ≤ (x0.length : Int) then (impl_merge.l0 k (x0.drop 1) (x1.drop 1) (x5 ++ [(⟨(rd_T37 x0 0).f0, (rd_T37 x0 0).f1⟩ : S37)])) else (none)) else (none)) else (none)) else (if x5.length < 8796093022208 then (if 1 ≤ (x0.length : Int) then (impl_merge.l0 k (x0.drop 1) x1 (x5 ++ [(⟨(rd_T37 x0 0).f0, (rd_T37 x0 0).f1⟩ : S37)])) else (none)) else (none))) else (none)) else (none)) else (if 0 < (x0.length : Int) then (if x5.length < 8796093022208 then (if 1 ≤ (x0.length : Int) then (impl_merge.l0 k (x0.drop 1) x1 (x5 ++ [(⟨(rd_T37 x0 0).f0, (rd_T37 x0 0).f1⟩ : S37)])) else (none)) else (none)) else (none))) else (if 0 < (x1.length : Int) then (if x5.length < 8796093022208 then (if 1 ≤ (x1.length : Int) then (impl_merge.l0 k x0 (x1.drop 1) (x5 ++ [(⟨(rd_T37 x1 0).f0, (rd_T37 x1 0).f1⟩ : S37)])) else (none)) else (none)) else (none))
end
def impl_merge.f (k : Nat) (l0 : List (S37)) (l1 : List (S37)) : Option ((List (S37))) := impl_merge.l0 k l0 l1 ([] : List (S37))
theorem impl_merge.mono_l : ∀ k, (∀ y0 y1 y2, LeO (impl_merge.l0 k y0 y1 y2) (impl_merge.l0 (k + 1) y0 y1 y2)) ∧ (∀ y0 y1 y2 y3, LeO (impl_merge.j1 k y0 y1 y2 y3) (impl_merge.j1 (k + 1) y0 y1 y2 y3)) ∧ (∀ y0 y1 y2 y3, LeO (impl_merge.j2 k y0 y1 y2 y3) (impl_merge.j2 (k + 1) y0 y1 y2 y3))
  | 0 => ⟨fun _ _ _ r h => by simp [impl_merge.l0] at h, fun _ _ _ _ r h => by simp [impl_merge.j1] at h, fun _ _ _ _ r h => by simp [impl_merge.j2] at h⟩
  | k + 1 => by
    obtain ⟨ih0, ih1, ih2⟩ := impl_merge.mono_l k
    refine ⟨?_, ?_, ?_⟩
    · intro y0 y1 y2
      unfold impl_merge.l0
      repeat' first
      | (with_reducible exact ih0 _ _ _)
      | (with_reducible exact ih1 _ _ _ _)
      | (with_reducible exact ih2 _ _ _ _)
      | (with_reducible exact LeO.refl _)
      | (with_reducible exact LeO.none _)
      | (with_reducible refine LeO.ite ?_ ?_)
      | (with_reducible refine LeO.bind ?_ (fun _ => ?_))
      | exact ih0 _ _ _
      | exact ih1 _ _ _ _
      | exact ih2 _ _ _ _
      | exact LeO.none _
      | refine LeO.ite ?_ ?_
      | refine LeO.bind ?_ (fun _ => ?_)
    · intro y0 y1 y2 y3
      unfold impl_merge.j1
      repeat' first
      | (with_reducible exact ih0 _ _ _)
      | (with_reducible exact ih1 _ _ _ _)
      | (with_reducible exact ih2 _ _ _ _)
      | (with_reducible exact LeO.refl _)
      | (with_reducible exact LeO.none _)
      | (with_reducible refine LeO.ite ?_ ?_)
      | (with_reducible refine LeO.bind ?_ (fun _ => ?_))
      | exact ih0 _ _ _
      | exact ih1 _ _ _ _
      | exact ih2 _ _ _ _
      | exact LeO.none _
      | refine LeO.ite ?_ ?_
      | refine LeO.bind ?_ (fun _ => ?_)
    · intro y0 y1 y2 y3
      unfold impl_merge.j2
      repeat' first
      | (with_reducible exact ih0 _ _ _)
      | (with_reducible exact ih1 _ _ _ _)
      | (with_reducible exact ih2 _ _ _ _)
      | (with_reducible exact LeO.refl _)
      | (with_reducible exact LeO.none _)
      | (with_reducible refine LeO.ite ?_ ?_)
      | (with_reducible refine LeO.bind ?_ (fun _ => ?_))
      | exact ih0 _ _ _
      | exact ih1 _ _ _ _
      | exact ih2 _ _ _ _
      | exact LeO.none _
      | refine LeO.ite ?_ ?_
      | refine LeO.bind ?_ (fun _ => ?_)
theorem impl_merge.mono : ∀ a0 a1 k, LeO (impl_merge.f k a0 a1) (impl_merge.f (k + 1) a0 a1) := by
  intro a0 a1 k
  obtain ⟨ih0, ih1, ih2⟩ := impl_merge.mono_l k
  unfold impl_merge.f
  repeat' first
      | (with_reducible exact ih0 _ _ _)
      | (with_reducible exact ih1 _ _ _ _)
      | (with_reducible exact ih2 _ _ _ _)
      | (with_reducible exact LeO.refl _)
      | (with_reducible exact LeO.none _)
      | (with_reducible refine LeO.ite ?_ ?_)
      | (with_reducible refine LeO.bind ?_ (fun _ => ?_))
      | exact ih0 _ _ _
      | exact ih1 _ _ _ _
      | exact ih2 _ _ _ _
      | exact LeO.none _
      | refine LeO.ite ?_ ?_
      | refine LeO.bind ?_ (fun _ => ?_)
set_option maxHeartbeats 8000000 in
set_option maxRecDepth 100000 in
theorem impl_merge.calls (k : Nat) (P0_ : Nat → Prop) (A0 : Option Addr) (c0 : Nat) (l0 : List (S37)) (P1_ : Nat → Prop) (A1 : Option Addr) (c1 : Nat) (l1 : List (S37)) (r : List (S37)) (w : World) (hs0 : Kd.V k37 37 w w.heap.size (fun k_ => P0_ k_) (.slice A0 l0.length c0) l0) (hs1 : Kd.V k37 37 w w.heap.size (fun k_ => P1_ k_) (.slice A1 l1.length c1) l1) (h : impl_merge.f k l0 l1 = some r) :
    Calls Try.prog 82 #[.slice A0 l0.length c0, .slice A1 l1.length c1] w fun e w' => ∃ v0_ : Value, e = .returned (v0_) ∧ Kd.R k37 37 w' w.heap.size (fun k_ => (w.heap.size ≤ k_)) v0_ r ∧ Below w.heap.size w w' := by
  have hu37 := Try.underlying37
  have HO0 := Aside0.mk (show Kd.V k37 37 w w.heap.size (fun k_ => ((P0_ k_ ∨ P1_ k_) ∨ w.heap.size ≤ k_)) (.slice A0 l0.length c0) l0 from Kd.V_mono hs0 (fun k_ hk => .inl (.inl hk)))
  have HO1 := Aside0.mk (show Kd.V k37 37 w w.heap.size (fun k_ => ((P0_ k_ ∨ P1_ k_) ∨ w.heap.size ≤ k_)) (.slice A1 l1.length c1) l1 from Kd.V_mono hs1 (fun k_ hk => .inl (.inr hk)))
  have HB := Aside0.mk (Below.refl w.heap.size w)
  have H : (impl_merge.l0 k l0 l1 ([] : List (S37))) = some r := h
  clear h
  have H' := Aside0.mk H
  clear H
  go_enter Try.func82, Try.ntmps82
  go_wp2
  repeat (go_quiet (fail); try go_wp2)
  go_loopg [0, 1, 5] k (fun kq v0 v1 v5 w' => ∃ (x0_1 : List (S37)) (x1_1 : List (S37)) (x5_1 : List (S37)), Aside0 (impl_merge.l0 kq x0_1 x1_1 x5_1 = some r) ∧ Aside0 (kq ≤ k) ∧ Aside0 (Kd.V k37 37 w' w.heap.size (fun k_ => ((P0_ k_ ∨ P1_ k_) ∨ w.heap.size ≤ k_) ∧ some k_ ≠ (v5 : Value).ownBlock) v0 x0_1) ∧ Aside0 (Kd.V k37 37 w' w.heap.size (fun k_ => ((P0_ k_ ∨ P1_ k_) ∨ w.heap.size ≤ k_) ∧ some k_ ≠ (v5 : Value).ownBlock) v1 x1_1) ∧ Aside0 (Kd.R k37 37 w' w.heap.size (fun k_ => (w.heap.size ≤ k_)) v5 x5_1) ∧ Aside0 (Below w.heap.size w w'))
  case atStart => exact ⟨(l0), (l1), (([] : List (S37))), H', ⟨Nat.le_refl _⟩, ⟨by (with_reducible repeat (first | apply Kd.V_alloc | apply Kd.V_drewN | apply Kd.V_drew)); exact Kd.V_mono HO0.out (fun _ hk => ⟨hk, (by simp [Value.ownBlock])⟩)⟩, ⟨by (with_reducible repeat (first | apply Kd.V_alloc | apply Kd.V_drewN | apply Kd.V_drew)); exact Kd.V_mono HO1.out (fun _ hk => ⟨hk, (by simp [Value.ownBlock])⟩)⟩, ⟨by first | exact Kd.R_nil _ _ _ _ _ | exact Kd.N_nil _ _ _ _ _ | exact Kd.V_nil _ _ _ _ _ | exact Kd.Q_nil _ _ _ _ _ | exact Kd.S_nil _ _ _ _ _⟩, ⟨by repeat (first | (with_reducible first | exact HB.out | apply below_alloc | apply pw_below_drewN | apply below_drew1) | exact HB.out)⟩⟩
  case round =>
    clear H'
    try clear c1
    try clear p2
    obtain ⟨x0_1, x1_1, x5_1, HA, HK1, HO_0, HO_1, HO_5, HB⟩ := hrel
    cases gk with
    | zero => exact absurd HA.out (by simp [impl_merge.l0])
    | succ k1 =>
      have H := HA.out
      clear HA
      simp only [impl_merge.l0] at H
      have HC3 := Aside0.mk H
      clear H
      go_upto_region 2 with (fail)
      repeat (go_quiet (fail); go_upto_region 2 with (fail))
      go_cut [13] (fun v13 wc => ∃ (kq : Nat) (x13_2 : Bool), v13 = .bool x13_2 ∧ Aside0 (impl_merge.j1 kq x0_1 x1_1 x5_1 x13_2 = some r) ∧ Aside0 (kq ≤ k1) ∧ Aside0 (Kd.V k37 37 wc w.heap.size (fun k_ => ((P0_ k_ ∨ P1_ k_) ∨ w.heap.size ≤ k_) ∧ some k_ ≠ (u5 : Value).ownBlock) u0 x0_1) ∧ Aside0 (Kd.V k37 37 wc w.heap.size (fun k_ => ((P0_ k_ ∨ P1_ k_) ∨ w.heap.size ≤ k_) ∧ some k_ ≠ (u5 : Value).ownBlock) u1 x1_1) ∧ Aside0 (Kd.R k37 37 wc w.heap.size (fun k_ => (w.heap.size ≤ k_)) u5 x5_1) ∧ Aside0 (Below w.heap.size w wc))
      case first =>
        have H := HC3.out
        clear HC3
        by_cases c4 : (x0_1.length : Int) > 0
        · rw [if_pos c4] at H
          have c4b0 : decide (0 < (x0_1.length : Int)) = true := decide_eq_true c4
          have c4b1 : decide (0 < x0_1.length) = true := decide_eq_true (by omega)
          clear c4
          (first | rw [c4b0] | (simp only [i64_w, i32_w]; rw [c4b0]) | skip)
          have H' := Aside0.mk H
          clear H
          obtain ⟨Ao5, co5, eo5⟩ := Kd.V_slice HO_0.out
          subst eo5
          go_wp2
          repeat (go_quiet (fail); try go_wp2)
          go_meet
          case rel => exact ⟨_, (true), (by first | rfl | (simp; done) | (simp [*]; done)), H', ⟨by have := HK1.out; first | omega | exact Nat.le_refl _⟩, ⟨by (with_reducible repeat (first | apply Kd.V_alloc | apply Kd.V_drewN | apply Kd.V_drew)); exact HO_0.out⟩, ⟨by (with_reducible repeat (first | apply Kd.V_alloc | apply Kd.V_drewN | apply Kd.V_drew)); exact HO_1.out⟩, ⟨by (with_reducible repeat (first | apply Kd.R_alloc | apply Kd.R_drewN | apply Kd.R_drew)); exact HO_5.out⟩, ⟨by repeat (first | (with_reducible first | exact HB.out | apply below_alloc | apply pw_below_drewN | apply below_drew1) | exact HB.out)⟩⟩
        · rw [if_neg c4] at H
          have c4b0 : decide (0 < (x0_1.length : Int)) = false := decide_eq_false c4
          have c4b1 : decide (0 < x0_1.length) = false := decide_eq_false (by omega)
          clear c4
          (first | rw [c4b0] | (simp only [i64_w, i32_w]; rw [c4b0]) | skip)
          have H' := Aside0.mk H
          clear H
          obtain ⟨Ao6, co6, eo6⟩ := Kd.V_slice HO_0.out
          subst eo6
          obtain ⟨Ao7, co7, eo7⟩ := Kd.V_slice HO_1.out
          subst eo7
          go_wp2
          repeat (go_quiet (fail); try go_wp2)
          go_meet
          case rel => exact ⟨_, (decide ((x1_1.length : Int) > 0)), (by first | rfl | (simp; done) | (simp [*]; done)), H', ⟨by have := HK1.out; first | omega | exact Nat.le_refl _⟩, ⟨by (with_reducible repeat (first | apply Kd.V_alloc | apply Kd.V_drewN | apply Kd.V_drew)); exact HO_0.out⟩, ⟨by (with_reducible repeat (first | apply Kd.V_alloc | apply Kd.V_drewN | apply Kd.V_drew)); exact HO_1.out⟩, ⟨by (with_reducible repeat (first | apply Kd.R_alloc | apply Kd.R_drewN | apply Kd.R_drew)); exact HO_5.out⟩, ⟨by repeat (first | (with_reducible first | exact HB.out | apply below_alloc | apply pw_below_drewN | apply below_drew1) | exact HB.out)⟩⟩
      case rest =>
        clear HC3
        try clear c1
        try clear p2
        try clear c4
        try clear c4b0
        try clear c4b1
        try clear p2
        obtain ⟨kq, x13_2, rfl, HA, HJ2, HO_0, HO_1, HO_5, HB⟩ := hcut
        cases kq with
        | zero => exact absurd HA.out (by simp [impl_merge.j1])
        | succ kj2 =>
          have H := HA.out
          clear HA
          simp only [impl_merge.j1] at H
          by_cases c8 : x13_2 = true
          · subst c8
            have H1 : (if (x1_1.length : Int) = 0 then (impl_merge.j2 kj2 x0_1 x1_1 x5_1 true) else (if (x0_1.length : Int) > 0 then (if 0 < (x0_1.length : Int) then (if 0 < (x1_1.length : Int) then (impl_merge.j2 kj2 x0_1 x1_1 x5_1 (decide (((rd_T37 x0_1 0).f0) ≤ ((rd_T37 x1_1 0).f0)))) else (none)) else (none)) else (impl_merge.j2 kj2 x0_1 x1_1 x5_1 false))) = some r := by rw [if_pos rfl] at H; exact H
            clear H
            have H := H1
            clear H1
            have HC9 := Aside0.mk H
            clear H
            go_upto_region 3 with (fail)
            repeat (go_quiet (fail); go_upto_region 3 with (fail))
            go_cut [32] (fun v32 wc => ∃ (kq : Nat) (x32_8 : Bool), v32 = .bool x32_8 ∧ Aside0 (impl_merge.j2 kq x0_1 x1_1 x5_1 x32_8 = some r) ∧ Aside0 (kq ≤ kj2) ∧ Aside0 (Kd.V k37 37 wc w.heap.size (fun k_ => ((P0_ k_ ∨ P1_ k_) ∨ w.heap.size ≤ k_) ∧ some k_ ≠ (u5 : Value).ownBlock) u0 x0_1) ∧ Aside0 (Kd.V k37 37 wc w.heap.size (fun k_ => ((P0_ k_ ∨ P1_ k_) ∨ w.heap.size ≤ k_) ∧ some k_ ≠ (u5 : Value).ownBlock) u1 x1_1) ∧ Aside0 (Kd.R k37 37 wc w.heap.size (fun k_ => (w.heap.size ≤ k_)) u5 x5_1) ∧ Aside0 (Below w.heap.size w wc))
            case first =>
              have H := HC9.out
              clear HC9
              by_cases c10 : (x1_1.length : Int) = 0
              · rw [if_pos c10] at H
                have c10b0 : ((x1_1.length : Int) == 0) = true := beq_iff_eq.mpr c10
                have c10b1 : ((x1_1.length : Int) != 0) = false := bne_eq_false_iff_eq.mpr c10
                clear c10
                (first | rw [c10b0] | (simp only [i64_w, i32_w]; rw [c10b0]) | skip)
                have H' := Aside0.mk H
                clear H
                obtain ⟨Ao11, co11, eo11⟩ := Kd.V_slice HO_1.out
                subst eo11
                go_wp2
                repeat (go_quiet (fail); try go_wp2)
                go_meet
                case rel => exact ⟨_, (true), (by first | rfl | (simp; done) | (simp [*]; done)), H', ⟨by have := HK1.out; have := HJ2.out; first | omega | exact Nat.le_refl _⟩, ⟨by (with_reducible repeat (first | apply Kd.V_alloc | apply Kd.V_drewN | apply Kd.V_drew)); exact HO_0.out⟩, ⟨by (with_reducible repeat (first | apply Kd.V_alloc | apply Kd.V_drewN | apply Kd.V_drew)); exact HO_1.out⟩, ⟨by (with_reducible repeat (first | apply Kd.R_alloc | apply Kd.R_drewN | apply Kd.R_drew)); exact HO_5.out⟩, ⟨by repeat (first | (with_reducible first | exact HB.out | apply below_alloc | apply pw_below_drewN | apply below_drew1) | exact HB.out)⟩⟩
              · rw [if_neg c10] at H
                have c10b0 : ((x1_1.length : Int) == 0) = false := beq_eq_false_iff_ne.mpr c10
                have c10b1 : ((x1_1.length : Int) != 0) = true := bne_iff_ne.mpr c10
                have c10b2 : ¬ (x1_1 = []) := fun h_ => c10 (by rw [h_]; rfl)
                (first | rw [c10b0] | (simp only [i64_w, i32_w]; rw [c10b0]) | skip)
                by_cases c12 : (x0_1.length : Int) > 0
                · rw [if_pos c12] at H
                  have c12b0 : decide (0 < (x0_1.length : Int)) = true := decide_eq_true c12
                  have c12b1 : decide (0 < x0_1.length) = true := decide_eq_true (by omega)
                  clear c12
                  by_cases c13 : 0 < (x0_1.length : Int)
                  · rw [if_pos c13] at H
                    have c13b0 : decide (0 < (x0_1.length : Int)) = true := decide_eq_true c13
                    have c13b1 : decide (0 < x0_1.length) = true := decide_eq_true (by omega)
                    clear c13
                    by_cases c14 : 0 < (x1_1.length : Int)
                    · rw [if_pos c14] at H
                      have c14b0 : decide (0 < (x1_1.length : Int)) = true := decide_eq_true c14
                      have c14b1 : decide (0 < x1_1.length) = true := decide_eq_true (by omega)
                      clear c14
                      have H' := Aside0.mk H
                      clear H
                      obtain ⟨Ao15, co15, eo15⟩ := Kd.V_slice HO_1.out
                      subst eo15
                      obtain ⟨Ao16, co16, eo16⟩ := Kd.V_slice HO_0.out
                      subst eo16
                      have p307 : 0 ≤ (0 : Int) := (by omega)
                      have q307 : 0 < (x0_1.length : Int) := of_decide_eq_true (by first | (with_reducible assumption) | assumption)
                      obtain ⟨ad307, e307, hx307_0, hx307_1⟩ := at_T37 (Kd.V_reads' HO_0.out).2.2 0 p307 q307
                      cases e307
                      have qi307 : (0 < x0_1.length) = True := eq_true (by omega)
                      (try rw [show ((0 : Int)).toNat = 0 from rfl] at hx307_0)
                      (try rw [show 0 * 2 = 0 from rfl] at hx307_0)
                      (try rw [Addr.add_zero'] at hx307_0)
                      (try rw [show ((0 : Int)).toNat = 0 from rfl] at hx307_1)
                      (try rw [show 0 * 2 = 0 from rfl] at hx307_1)
                      (try rw [Addr.add_zero'] at hx307_1)
                      replace p307 := eq_true p307
                      replace q307 := eq_true q307
                      have p308 : 0 ≤ (0 : Int) := (by omega)
                      have q308 : 0 < (x1_1.length : Int) := of_decide_eq_true (by first | (with_reducible assumption) | assumption)
                      obtain ⟨ad308, e308, hx308_0, hx308_1⟩ := at_T37 (Kd.V_reads' HO_1.out).2.2 0 p308 q308
                      cases e308
                      have qi308 : (0 < x1_1.length) = True := eq_true (by omega)
                      (try rw [show ((0 : Int)).toNat = 0 from rfl] at hx308_0)
                      (try rw [show 0 * 2 = 0 from rfl] at hx308_0)
                      (try rw [Addr.add_zero'] at hx308_0)
                      (try rw [show ((0 : Int)).toNat = 0 from rfl] at hx308_1)
                      (try rw [show 0 * 2 = 0 from rfl] at hx308_1)
                      (try rw [Addr.add_zero'] at hx308_1)
                      replace p308 := eq_true p308
                      replace q308 := eq_true q308
                      go_wp2
                      repeat (go_quiet (fail); try go_wp2)
                      go_meet
                      case rel => exact ⟨_, (decide (((rd_T37 x0_1 0).f0) ≤ ((rd_T37 x1_1 0).f0))), (by first | rfl | (simp; done) | (simp [*]; done)), H', ⟨by have := HK1.out; have := HJ2.out; first | omega | exact Nat.le_refl _⟩, ⟨by (with_reducible repeat (first | apply Kd.V_alloc | apply Kd.V_drewN | apply Kd.V_drew)); exact HO_0.out⟩, ⟨by (with_reducible repeat (first | apply Kd.V_alloc | apply Kd.V_drewN | apply Kd.V_drew)); exact HO_1.out⟩, ⟨by (with_reducible repeat (first | apply Kd.R_alloc | apply Kd.R_drewN | apply Kd.R_drew)); exact HO_5.out⟩, ⟨by repeat (first | (with_reducible first | exact HB.out | apply below_alloc | apply pw_below_drewN | apply below_drew1) | exact HB.out)⟩⟩
                    · rw [if_neg c14] at H
                      exact absurd H (by simp)
                  · rw [if_neg c13] at H
                    exact absurd H (by simp)
                · rw [if_neg c12] at H
                  have c12b0 : decide (0 < (x0_1.length : Int)) = false := decide_eq_false c12
                  have c12b1 : decide (0 < x0_1.length) = false := decide_eq_false (by omega)
                  clear c12
                  have H' := Aside0.mk H
                  clear H
                  obtain ⟨Ao17, co17, eo17⟩ := Kd.V_slice HO_1.out
                  subst eo17
                  obtain ⟨Ao18, co18, eo18⟩ := Kd.V_slice HO_0.out
                  subst eo18
                  go_wp2
                  repeat (go_quiet (fail); try go_wp2)
                  go_meet
                  case rel => exact ⟨_, (false), (by first | rfl | (simp; done) | (simp [*]; done)), H', ⟨by have := HK1.out; have := HJ2.out; first | omega | exact Nat.le_refl _⟩, ⟨by (with_reducible repeat (first | apply Kd.V_alloc | apply Kd.V_drewN | apply Kd.V_drew)); exact HO_0.out⟩, ⟨by (with_reducible repeat (first | apply Kd.V_alloc | apply Kd.V_drewN | apply Kd.V_drew)); exact HO_1.out⟩, ⟨by (with_reducible repeat (first | apply Kd.R_alloc | apply Kd.R_drewN | apply Kd.R_drew)); exact HO_5.out⟩, ⟨by repeat (first | (with_reducible first | exact HB.out | apply below_alloc | apply pw_below_drewN | apply below_drew1) | exact HB.out)⟩⟩
            case rest =>
              clear HC9
              try clear c1
              try clear p2
              try clear p3
              try clear q3
              try clear hx3
              try clear qi3
              try clear c4
              try clear c4b0
              try clear c4b1
              try clear c8
              try clear c10
              try clear c10b0
              try clear c10b1
              try clear c10b2
              try clear c12
              try clear c12b0
              try clear c12b1
              try clear c13
              try clear c13b0
              try clear c13b1
              try clear c14
              try clear c14b0
              try clear c14b1
              try clear hx307_0
              try clear hx307_1
              try clear hx308_0
              try clear hx308_1
              try clear p2
              try clear p307
              try clear p308
              try clear q307
              try clear q308
              obtain ⟨kq, x32_8, rfl, HA, HJ8, HO_0, HO_1, HO_5, HB⟩ := hcut
              cases kq with
              | zero => exact absurd HA.out (by simp [impl_merge.j2])
              | succ kj8 =>
                have H := HA.out
                clear HA
                simp only [impl_merge.j2] at H
                by_cases c19 : x32_8 = true
                · subst c19
                  have H1 : (if (x1_1.length : Int) > 0 then (if 0 < (x0_1.length : Int) then (if 0 < (x1_1.length : Int) then (if ((rd_T37 x0_1 0).f0) = ((rd_T37 x1_1 0).f0) then (if 1 ≤ (x1_1.length : Int) then (if x5_1.length < 8796093022208 then (if 1 ≤ (x0_1.length : Int) then (impl_merge.l0 kj8 (x0_1.drop 1) (x1_1.drop 1) (x5_1 ++ [(⟨(rd_T37 x0_1 0).f0, (rd_T37 x0_1 0).f1⟩ : S37)])) else (none)) else (none)) else (none)) else (if x5_1.length < 8796093022208 then (if 1 ≤ (x0_1.length : Int) then (impl_merge.l0 kj8 (x0_1.drop 1) x1_1 (x5_1 ++ [(⟨(rd_T37 x0_1 0).f0, (rd_T37 x0_1 0).f1⟩ : S37)])) else (none)) else (none))) else (none)) else (none)) else (if 0 < (x0_1.length : Int) then (if x5_1.length < 8796093022208 then (if 1 ≤ (x0_1.length : Int) then (impl_merge.l0 kj8 (x0_1.drop 1) x1_1 (x5_1 ++ [(⟨(rd_T37 x0_1 0).f0, (rd_T37 x0_1 0).f1⟩ : S37)])) else (none)) else (none)) else (none))) = some r := by rw [if_pos rfl] at H; exact H
                  clear H
                  have H := H1
                  clear H1
                  by_cases c20 : (x1_1.length : Int) > 0
                  · rw [if_pos c20] at H
                    have c20b0 : decide (0 < (x1_1.length : Int)) = true := decide_eq_true c20
                    have c20b1 : decide (0 < x1_1.length) = true := decide_eq_true (by omega)
                    clear c20
                    by_cases c21 : 0 < (x0_1.length : Int)
                    · rw [if_pos c21] at H
                      have c21b0 : decide (0 < (x0_1.length : Int)) = true := decide_eq_true c21
                      have c21b1 : decide (0 < x0_1.length) = true := decide_eq_true (by omega)
                      clear c21
                      by_cases c22 : 0 < (x1_1.length : Int)
                      · rw [if_pos c22] at H
                        have c22b0 : decide (0 < (x1_1.length : Int)) = true := decide_eq_true c22
                        have c22b1 : decide (0 < x1_1.length) = true := decide_eq_true (by omega)
                        clear c22
                        by_cases c23 : ((rd_T37 x0_1 0).f0) = ((rd_T37 x1_1 0).f0)
                        · rw [if_pos c23] at H
                          have c23b0 : (((rd_T37 x0_1 0).f0) == ((rd_T37 x1_1 0).f0)) = true := beq_iff_eq.mpr c23
                          have c23b1 : (((rd_T37 x0_1 0).f0) != ((rd_T37 x1_1 0).f0)) = false := bne_eq_false_iff_eq.mpr c23
                          clear c23
                          by_cases c24 : 1 ≤ (x1_1.length : Int)
                          · rw [if_pos c24] at H
                            have c24b0 := eq_true c24
                            have c24b1 : decide (1 ≤ (x1_1.length : Int)) = true := decide_eq_true c24
                            clear c24
                            obtain ⟨y311, hy311⟩ : ∃ y_ : List (S37), y_ = (x1_1.drop 1) := ⟨_, rfl⟩
                            replace H : (if x5_1.length < 8796093022208 then (if 1 ≤ (x0_1.length : Int) then (impl_merge.l0 kj8 (x0_1.drop 1) y311 (x5_1 ++ [(⟨(rd_T37 x0_1 0).f0, (rd_T37 x0_1 0).f1⟩ : S37)])) else (none)) else (none)) = some r := by first | (rw [hy311]; with_reducible exact H) | (have H2_ := (Option.bind_some _ _).symm.trans H; rw [hy311]; with_reducible exact H2_) | (have H2_ := (Option.bind_some _ _).symm.trans H; with_reducible exact H2_) | with_reducible exact H | (rw [hy311]; exact H) | exact H
                            have Ny311 := Aside0.mk hy311
                            clear hy311
                            by_cases c25 : x5_1.length < 8796093022208
                            · rw [if_pos c25] at H
                              have LMc25 := Aside0.mk c25
                              clear c25
                              obtain ⟨y317, hy317⟩ : ∃ y_ : List (S37), y_ = (x5_1 ++ [(⟨(rd_T37 x0_1 0).f0, (rd_T37 x0_1 0).f1⟩ : S37)]) := ⟨_, rfl⟩
                              replace H : (if 1 ≤ (x0_1.length : Int) then (impl_merge.l0 kj8 (x0_1.drop 1) y311 y317) else (none)) = some r := by first | (rw [hy317]; with_reducible exact H) | (have H2_ := (Option.bind_some _ _).symm.trans H; rw [hy317]; with_reducible exact H2_) | (have H2_ := (Option.bind_some _ _).symm.trans H; with_reducible exact H2_) | with_reducible exact H | (rw [hy317]; exact H) | exact H
                              have Ny317 := Aside0.mk hy317
                              clear hy317
                              by_cases c26 : 1 ≤ (x0_1.length : Int)
                              · rw [if_pos c26] at H
                                have c26b0 := eq_true c26
                                have c26b1 : decide (1 ≤ (x0_1.length : Int)) = true := decide_eq_true c26
                                clear c26
                                obtain ⟨y320, hy320⟩ : ∃ y_ : List (S37), y_ = (x0_1.drop 1) := ⟨_, rfl⟩
                                replace H : (impl_merge.l0 kj8 y320 y311 y317) = some r := by first | (rw [hy320]; with_reducible exact H) | (have H2_ := (Option.bind_some _ _).symm.trans H; rw [hy320]; with_reducible exact H2_) | (have H2_ := (Option.bind_some _ _).symm.trans H; with_reducible exact H2_) | with_reducible exact H | (rw [hy320]; exact H) | exact H
                                have Ny320 := Aside0.mk hy320
                                clear hy320
                                have H' := Aside0.mk H
                                clear H
                                obtain ⟨Ao27, co27, eo27⟩ := Kd.V_slice HO_1.out
                                subst eo27
                                obtain ⟨Ao28, co28, eo28⟩ := Kd.V_slice HO_0.out
                                subst eo28
                                have p309 : 0 ≤ (0 : Int) := (by omega)
                                have q309 : 0 < (x0_1.length : Int) := of_decide_eq_true (by first | (with_reducible assumption) | assumption)
                                obtain ⟨ad309, e309, hx309_0, hx309_1⟩ := at_T37 (Kd.V_reads' HO_0.out).2.2 0 p309 q309
                                cases e309
                                have qi309 : (0 < x0_1.length) = True := eq_true (by omega)
                                (try rw [show ((0 : Int)).toNat = 0 from rfl] at hx309_0)
                                (try rw [show 0 * 2 = 0 from rfl] at hx309_0)
                                (try rw [Addr.add_zero'] at hx309_0)
                                (try rw [show ((0 : Int)).toNat = 0 from rfl] at hx309_1)
                                (try rw [show 0 * 2 = 0 from rfl] at hx309_1)
                                (try rw [Addr.add_zero'] at hx309_1)
                                replace p309 := eq_true p309
                                replace q309 := eq_true q309
                                have p310 : 0 ≤ (0 : Int) := (by omega)
                                have q310 : 0 < (x1_1.length : Int) := of_decide_eq_true (by first | (with_reducible assumption) | assumption)
                                obtain ⟨ad310, e310, hx310_0, hx310_1⟩ := at_T37 (Kd.V_reads' HO_1.out).2.2 0 p310 q310
                                cases e310
                                have qi310 : (0 < x1_1.length) = True := eq_true (by omega)
                                (try rw [show ((0 : Int)).toNat = 0 from rfl] at hx310_0)
                                (try rw [show 0 * 2 = 0 from rfl] at hx310_0)
                                (try rw [Addr.add_zero'] at hx310_0)
                                (try rw [show ((0 : Int)).toNat = 0 from rfl] at hx310_1)
                                (try rw [show 0 * 2 = 0 from rfl] at hx310_1)
                                (try rw [Addr.add_zero'] at hx310_1)
                                replace p310 := eq_true p310
                                replace q310 := eq_true q310
                                have q29 : (1 : Int) ≤ ((x1_1.length : Int) : Int) := of_decide_eq_true (by first | (with_reducible assumption) | assumption)
                                obtain ⟨i029, hi029, _, hsz29, _⟩ := info_parts info37
                                have hroom29 : x1_1.length ≤ co27 := (Kd.V_reads' HO_1.out).2.1
                                have hC29 : Kd.F k37 _ _ (some ad310) x1_1.length x1_1 := (Kd.V_at (base := w.heap.size) HO_1.out).2.2
                                have hcut29 := cut_from (P := Try.prog) 40 37 .i64 Try.underlying40 hi029 2 hsz29 (some ad310) x1_1.length co27 1 (by omega) q29
                                have hr29 := Kd.F_cut (m := (1 : Int).toNat) (c := co27) hC29 (by omega) hroom29
                                obtain ⟨A29, hA29⟩ : ∃ A1, A1 = (if co27 = (1 : Int).toNat then (some ad310) else ((some ad310) : Option Addr).map (·.add ((1 : Int).toNat * 2))) := ⟨_, rfl⟩
                                obtain ⟨c29, hc29⟩ : ∃ c1, c1 = co27 - (1 : Int).toNat := ⟨_, rfl⟩
                                have hy29 : y311.length = x1_1.length - (1 : Int).toNat := (by rw [Ny311.out, List.length_drop] <;> omega)
                                rw [show (x1_1).drop (1 : Int).toNat = y311 from Ny311.out.symm] at hr29
                                replace hr29 : Kd.F k37 _ _ A29 y311.length y311 := (by rw [hA29]; exact hr29)
                                rw [← hy29, ← hA29, ← hc29] at hcut29
                                have HO315 := Aside0.mk (show Kd.V k37 37 _ w.heap.size _ (.slice A29 y311.length c29) y311 from Kd.V_mk (by rw [hy29, hc29]; exact Nat.sub_le_sub_right hroom29 _) hr29)
                                have HC315 := Aside0.mk (show y311.length ≤ c29 from by rw [hy29, hc29]; exact Nat.sub_le_sub_right hroom29 _)
                                clear hr29 hC29 hroom29 hi029 hsz29 hc29
                                have KY29 := Aside0.mk hy29
                                have KA29 := Aside0.mk hA29
                                clear hy29 hA29
                                replace q29 := eq_true q29
                                have p316 : 0 ≤ (0 : Int) := (by omega)
                                have q316 : 0 < (x0_1.length : Int) := of_decide_eq_true (by first | (with_reducible assumption) | assumption)
                                obtain ⟨ad316, e316, hx316_0, hx316_1⟩ := at_T37 (Kd.V_reads' HO_0.out).2.2 0 p316 q316
                                obtain rfl : ad309 = ad316 := (by injection e316)
                                have qi316 : (0 < x0_1.length) = True := eq_true (by omega)
                                (try rw [show ((0 : Int)).toNat = 0 from rfl] at hx316_0)
                                (try rw [show 0 * 2 = 0 from rfl] at hx316_0)
                                (try rw [Addr.add_zero'] at hx316_0)
                                (try rw [show ((0 : Int)).toNat = 0 from rfl] at hx316_1)
                                (try rw [show 0 * 2 = 0 from rfl] at hx316_1)
                                (try rw [Addr.add_zero'] at hx316_1)
                                replace p316 := eq_true p316
                                replace q316 := eq_true q316
                                go_wp2_with (first | ((with_reducible refine gate_builtin (b := .append) (xs := #[.tmp 49, .tmp 53]) rfl ?_); (try (refine gate_guard (by rfl) ?_; dsimp only)); at_builtin; refine Kd.R_append k37 (w0 := w) w.heap.size rfl (.tmp 49) (.tmp 53) 40 37 (.agg #[(.int .i64 0), (.int .i64 0)]) 16 rfl Try.underlying40 info37 rfl (by decide) (by omega) u5 x5_1 (⟨(rd_T37 x0_1 0).f0, (rd_T37 x0_1 0).f1⟩ : S37) [.int .i64 ((rd_T37 x0_1 0).f0), .int .i64 ((rd_T37 x0_1 0).f1)] (fun k_ => (w.heap.size ≤ k_)) (fun _ => False) rfl rfl ?aP (fun _ hk => hk.elim) ?aF ?aO ?aB ?aS ?aL ?_; (case aP => exact k37_mkM _ _ _ (⟨(rd_T37 x0_1 0).f0, (rd_T37 x0_1 0).f1⟩ : S37)); (case aB => exact (by repeat (first | (with_reducible first | exact HB.out | apply below_alloc | apply pw_below_drewN | apply below_drew1) | exact HB.out))); (case aF => exact (fun k_ hk => (Nat.le_trans (below_size (by repeat (first | (with_reducible first | exact HB.out | apply below_alloc | apply pw_below_drewN | apply below_drew1) | exact HB.out))) hk))); (case aO => exact (by (with_reducible repeat (first | apply Kd.R_alloc | apply Kd.R_drewN | apply Kd.R_drew)); exact HO_5.out)); (case aS => exact (below_size (by repeat (first | (with_reducible first | exact HB.out | apply below_alloc | apply pw_below_drewN | apply below_drew1) | exact HB.out)))); (case aL => have := LMc25.out; omega); intro v318 w30 ho hb hg hat; rw [← Ny317.out] at ho; have n0_ := Aside0.mk (Kd.V_afterv (ok := (fun k_ => ((P0_ k_ ∨ P1_ k_) ∨ w.heap.size ≤ k_))) (by (with_reducible repeat (first | apply Kd.V_alloc | apply Kd.V_drewN | apply Kd.V_drew)); exact HO_0.out) hg hat); have n1_ := Aside0.mk (Kd.V_afterv (ok := (fun k_ => ((P0_ k_ ∨ P1_ k_) ∨ w.heap.size ≤ k_))) (by (with_reducible repeat (first | apply Kd.V_alloc | apply Kd.V_drewN | apply Kd.V_drew)); exact HO_1.out) hg hat); have n2_ := Aside0.mk (Kd.V_afterv (ok := (fun k_ => ((P0_ k_ ∨ P1_ k_) ∨ w.heap.size ≤ k_))) (by (with_reducible repeat (first | apply Kd.V_alloc | apply Kd.V_drewN | apply Kd.V_drew)); exact HO315.out) hg hat); have n3_ := Aside0.mk (hb); have n4_ := Aside0.mk (ho); clear HO_0; clear HO_1; clear HO315; clear HB; clear HO_5; have HO_0 := n0_; have HO_1 := n1_; have HO315 := n2_; have HB := n3_; have HO319 := n4_; clear n0_ n1_ n2_ n3_ n4_; clear ho hb hg hat; have q31 : (1 : Int) ≤ ((x0_1.length : Int) : Int) := of_decide_eq_true (by first | (with_reducible assumption) | assumption); obtain ⟨i031, hi031, _, hsz31, _⟩ := info_parts info37; have hroom31 : x0_1.length ≤ co28 := (Kd.V_reads' HO_0.out).2.1; have hC31 : Kd.F k37 _ _ (some ad309) x0_1.length x0_1 := (Kd.V_at (base := w.heap.size) HO_0.out).2.2; have hcut31 := cut_from (P := Try.prog) 40 37 .i64 Try.underlying40 hi031 2 hsz31 (some ad309) x0_1.length co28 1 (by omega) q31; have hr31 := Kd.F_cut (m := (1 : Int).toNat) (c := co28) hC31 (by omega) hroom31; obtain ⟨A31, hA31⟩ : ∃ A1, A1 = (if co28 = (1 : Int).toNat then (some ad309) else ((some ad309) : Option Addr).map (·.add ((1 : Int).toNat * 2))) := ⟨_, rfl⟩; obtain ⟨c31, hc31⟩ : ∃ c1, c1 = co28 - (1 : Int).toNat := ⟨_, rfl⟩; have hy31 : y320.length = x0_1.length - (1 : Int).toNat := (by rw [Ny320.out, List.length_drop] <;> omega); rw [show (x0_1).drop (1 : Int).toNat = y320 from Ny320.out.symm] at hr31; replace hr31 : Kd.F k37 _ _ A31 y320.length y320 := (by rw [hA31]; exact hr31); rw [← hy31, ← hA31, ← hc31] at hcut31; have HO324 := Aside0.mk (show Kd.V k37 37 _ w.heap.size _ (.slice A31 y320.length c31) y320 from Kd.V_mk (by rw [hy31, hc31]; exact Nat.sub_le_sub_right hroom31 _) hr31); have HC324 := Aside0.mk (show y320.length ≤ c31 from by rw [hy31, hc31]; exact Nat.sub_le_sub_right hroom31 _); clear hr31 hC31 hroom31 hi031 hsz31 hc31; have KY31 := Aside0.mk hy31; have KA31 := Aside0.mk hA31; clear hy31 hA31; replace q31 := eq_true q31))
                                repeat (go_quiet (first | ((with_reducible refine gate_builtin (b := .append) (xs := #[.tmp 49, .tmp 53]) rfl ?_); (try (refine gate_guard (by rfl) ?_; dsimp only)); at_builtin; refine Kd.R_append k37 (w0 := w) w.heap.size rfl (.tmp 49) (.tmp 53) 40 37 (.agg #[(.int .i64 0), (.int .i64 0)]) 16 rfl Try.underlying40 info37 rfl (by decide) (by omega) u5 x5_1 (⟨(rd_T37 x0_1 0).f0, (rd_T37 x0_1 0).f1⟩ : S37) [.int .i64 ((rd_T37 x0_1 0).f0), .int .i64 ((rd_T37 x0_1 0).f1)] (fun k_ => (w.heap.size ≤ k_)) (fun _ => False) rfl rfl ?aP (fun _ hk => hk.elim) ?aF ?aO ?aB ?aS ?aL ?_; (case aP => exact k37_mkM _ _ _ (⟨(rd_T37 x0_1 0).f0, (rd_T37 x0_1 0).f1⟩ : S37)); (case aB => exact (by repeat (first | (with_reducible first | exact HB.out | apply below_alloc | apply pw_below_drewN | apply below_drew1) | exact HB.out))); (case aF => exact (fun k_ hk => (Nat.le_trans (below_size (by repeat (first | (with_reducible first | exact HB.out | apply below_alloc | apply pw_below_drewN | apply below_drew1) | exact HB.out))) hk))); (case aO => exact (by (with_reducible repeat (first | apply Kd.R_alloc | apply Kd.R_drewN | apply Kd.R_drew)); exact HO_5.out)); (case aS => exact (below_size (by repeat (first | (with_reducible first | exact HB.out | apply below_alloc | apply pw_below_drewN | apply below_drew1) | exact HB.out)))); (case aL => have := LMc25.out; omega); intro v318 w30 ho hb hg hat; rw [← Ny317.out] at ho; have n0_ := Aside0.mk (Kd.V_afterv (ok := (fun k_ => ((P0_ k_ ∨ P1_ k_) ∨ w.heap.size ≤ k_))) (by (with_reducible repeat (first | apply Kd.V_alloc | apply Kd.V_drewN | apply Kd.V_drew)); exact HO_0.out) hg hat); have n1_ := Aside0.mk (Kd.V_afterv (ok := (fun k_ => ((P0_ k_ ∨ P1_ k_) ∨ w.heap.size ≤ k_))) (by (with_reducible repeat (first | apply Kd.V_alloc | apply Kd.V_drewN | apply Kd.V_drew)); exact HO_1.out) hg hat); have n2_ := Aside0.mk (Kd.V_afterv (ok := (fun k_ => ((P0_ k_ ∨ P1_ k_) ∨ w.heap.size ≤ k_))) (by (with_reducible repeat (first | apply Kd.V_alloc | apply Kd.V_drewN | apply Kd.V_drew)); exact HO315.out) hg hat); have n3_ := Aside0.mk (hb); have n4_ := Aside0.mk (ho); clear HO_0; clear HO_1; clear HO315; clear HB; clear HO_5; have HO_0 := n0_; have HO_1 := n1_; have HO315 := n2_; have HB := n3_; have HO319 := n4_; clear n0_ n1_ n2_ n3_ n4_; clear ho hb hg hat; have q31 : (1 : Int) ≤ ((x0_1.length : Int) : Int) := of_decide_eq_true (by first | (with_reducible assumption) | assumption); obtain ⟨i031, hi031, _, hsz31, _⟩ := info_parts info37; have hroom31 : x0_1.length ≤ co28 := (Kd.V_reads' HO_0.out).2.1; have hC31 : Kd.F k37 _ _ (some ad309) x0_1.length x0_1 := (Kd.V_at (base := w.heap.size) HO_0.out).2.2; have hcut31 := cut_from (P := Try.prog) 40 37 .i64 Try.underlying40 hi031 2 hsz31 (some ad309) x0_1.length co28 1 (by omega) q31; have hr31 := Kd.F_cut (m := (1 : Int).toNat) (c := co28) hC31 (by omega) hroom31; obtain ⟨A31, hA31⟩ : ∃ A1, A1 = (if co28 = (1 : Int).toNat then (some ad309) else ((some ad309) : Option Addr).map (·.add ((1 : Int).toNat * 2))) := ⟨_, rfl⟩; obtain ⟨c31, hc31⟩ : ∃ c1, c1 = co28 - (1 : Int).toNat := ⟨_, rfl⟩; have hy31 : y320.length = x0_1.length - (1 : Int).toNat := (by rw [Ny320.out, List.length_drop] <;> omega); rw [show (x0_1).drop (1 : Int).toNat = y320 from Ny320.out.symm] at hr31; replace hr31 : Kd.F k37 _ _ A31 y320.length y320 := (by rw [hA31]; exact hr31); rw [← hy31, ← hA31, ← hc31] at hcut31; have HO324 := Aside0.mk (show Kd.V k37 37 _ w.heap.size _ (.slice A31 y320.length c31) y320 from Kd.V_mk (by rw [hy31, hc31]; exact Nat.sub_le_sub_right hroom31 _) hr31); have HC324 := Aside0.mk (show y320.length ≤ c31 from by rw [hy31, hc31]; exact Nat.sub_le_sub_right hroom31 _); clear hr31 hC31 hroom31 hi031 hsz31 hc31; have KY31 := Aside0.mk hy31; have KA31 := Aside0.mk hA31; clear hy31 hA31; replace q31 := eq_true q31)); try go_wp2_with (first | ((with_reducible refine gate_builtin (b := .append) (xs := #[.tmp 49, .tmp 53]) rfl ?_); (try (refine gate_guard (by rfl) ?_; dsimp only)); at_builtin; refine Kd.R_append k37 (w0 := w) w.heap.size rfl (.tmp 49) (.tmp 53) 40 37 (.agg #[(.int .i64 0), (.int .i64 0)]) 16 rfl Try.underlying40 info37 rfl (by decide) (by omega) u5 x5_1 (⟨(rd_T37 x0_1 0).f0, (rd_T37 x0_1 0).f1⟩ : S37) [.int .i64 ((rd_T37 x0_1 0).f0), .int .i64 ((rd_T37 x0_1 0).f1)] (fun k_ => (w.heap.size ≤ k_)) (fun _ => False) rfl rfl ?aP (fun _ hk => hk.elim) ?aF ?aO ?aB ?aS ?aL ?_; (case aP => exact k37_mkM _ _ _ (⟨(rd_T37 x0_1 0).f0, (rd_T37 x0_1 0).f1⟩ : S37)); (case aB => exact (by repeat (first | (with_reducible first | exact HB.out | apply below_alloc | apply pw_below_drewN | apply below_drew1) | exact HB.out))); (case aF => exact (fun k_ hk => (Nat.le_trans (below_size (by repeat (first | (with_reducible first | exact HB.out | apply below_alloc | apply pw_below_drewN | apply below_drew1) | exact HB.out))) hk))); (case aO => exact (by (with_reducible repeat (first | apply Kd.R_alloc | apply Kd.R_drewN | apply Kd.R_drew)); exact HO_5.out)); (case aS => exact (below_size (by repeat (first | (with_reducible first | exact HB.out | apply below_alloc | apply pw_below_drewN | apply below_drew1) | exact HB.out)))); (case aL => have := LMc25.out; omega); intro v318 w30 ho hb hg hat; rw [← Ny317.out] at ho; have n0_ := Aside0.mk (Kd.V_afterv (ok := (fun k_ => ((P0_ k_ ∨ P1_ k_) ∨ w.heap.size ≤ k_))) (by (with_reducible repeat (first | apply Kd.V_alloc | apply Kd.V_drewN | apply Kd.V_drew)); exact HO_0.out) hg hat); have n1_ := Aside0.mk (Kd.V_afterv (ok := (fun k_ => ((P0_ k_ ∨ P1_ k_) ∨ w.heap.size ≤ k_))) (by (with_reducible repeat (first | apply Kd.V_alloc | apply Kd.V_drewN | apply Kd.V_drew)); exact HO_1.out) hg hat); have n2_ := Aside0.mk (Kd.V_afterv (ok := (fun k_ => ((P0_ k_ ∨ P1_ k_) ∨ w.heap.size ≤ k_))) (by (with_reducible repeat (first | apply Kd.V_alloc | apply Kd.V_drewN | apply Kd.V_drew)); exact HO315.out) hg hat); have n3_ := Aside0.mk (hb); have n4_ := Aside0.mk (ho); clear HO_0; clear HO_1; clear HO315; clear HB; clear HO_5; have HO_0 := n0_; have HO_1 := n1_; have HO315 := n2_; have HB := n3_; have HO319 := n4_; clear n0_ n1_ n2_ n3_ n4_; clear ho hb hg hat; have q31 : (1 : Int) ≤ ((x0_1.length : Int) : Int) := of_decide_eq_true (by first | (with_reducible assumption) | assumption); obtain ⟨i031, hi031, _, hsz31, _⟩ := info_parts info37; have hroom31 : x0_1.length ≤ co28 := (Kd.V_reads' HO_0.out).2.1; have hC31 : Kd.F k37 _ _ (some ad309) x0_1.length x0_1 := (Kd.V_at (base := w.heap.size) HO_0.out).2.2; have hcut31 := cut_from (P := Try.prog) 40 37 .i64 Try.underlying40 hi031 2 hsz31 (some ad309) x0_1.length co28 1 (by omega) q31; have hr31 := Kd.F_cut (m := (1 : Int).toNat) (c := co28) hC31 (by omega) hroom31; obtain ⟨A31, hA31⟩ : ∃ A1, A1 = (if co28 = (1 : Int).toNat then (some ad309) else ((some ad309) : Option Addr).map (·.add ((1 : Int).toNat * 2))) := ⟨_, rfl⟩; obtain ⟨c31, hc31⟩ : ∃ c1, c1 = co28 - (1 : Int).toNat := ⟨_, rfl⟩; have hy31 : y320.length = x0_1.length - (1 : Int).toNat := (by rw [Ny320.out, List.length_drop] <;> omega); rw [show (x0_1).drop (1 : Int).toNat = y320 from Ny320.out.symm] at hr31; replace hr31 : Kd.F k37 _ _ A31 y320.length y320 := (by rw [hA31]; exact hr31); rw [← hy31, ← hA31, ← hc31] at hcut31; have HO324 := Aside0.mk (show Kd.V k37 37 _ w.heap.size _ (.slice A31 y320.length c31) y320 from Kd.V_mk (by rw [hy31, hc31]; exact Nat.sub_le_sub_right hroom31 _) hr31); have HC324 := Aside0.mk (show y320.length ≤ c31 from by rw [hy31, hc31]; exact Nat.sub_le_sub_right hroom31 _); clear hr31 hC31 hroom31 hi031 hsz31 hc31; have KY31 := Aside0.mk hy31; have KA31 := Aside0.mk hA31; clear hy31 hA31; replace q31 := eq_true q31)))
                                go_roundg kj8
                                case measure => have := HK1.out; have := HJ2.out; have := HJ8.out; omega
                                case rel => exact ⟨(y320), (y311), (y317), H', ⟨by have := HK1.out; have := HJ2.out; have := HJ8.out; omega⟩, ⟨by (with_reducible repeat (first | apply Kd.V_alloc | apply Kd.V_drewN | apply Kd.V_drew)); exact HO324.out⟩, ⟨by (with_reducible repeat (first | apply Kd.V_alloc | apply Kd.V_drewN | apply Kd.V_drew)); exact HO315.out⟩, ⟨by (with_reducible repeat (first | apply Kd.R_alloc | apply Kd.R_drewN | apply Kd.R_drew)); exact HO319.out⟩, ⟨by repeat (first | (with_reducible first | exact HB.out | apply below_alloc | apply pw_below_drewN | apply below_drew1) | exact HB.out)⟩⟩
                              · rw [if_neg c26] at H
                                exact absurd H (by simp)
                            · rw [if_neg c25] at H
                              exact absurd H (by simp)
                          · rw [if_neg c24] at H
                            exact absurd H (by simp)
                        · rw [if_neg c23] at H
                          have c23b0 : (((rd_T37 x0_1 0).f0) == ((rd_T37 x1_1 0).f0)) = false := beq_eq_false_iff_ne.mpr c23
                          have c23b1 : (((rd_T37 x0_1 0).f0) != ((rd_T37 x1_1 0).f0)) = true := bne_iff_ne.mpr c23
                          by_cases c32 : x5_1.length < 8796093022208
                          · rw [if_pos c32] at H
                            have LMc32 := Aside0.mk c32
                            clear c32
                            obtain ⟨y326, hy326⟩ : ∃ y_ : List (S37), y_ = (x5_1 ++ [(⟨(rd_T37 x0_1 0).f0, (rd_T37 x0_1 0).f1⟩ : S37)]) := ⟨_, rfl⟩
                            replace H : (if 1 ≤ (x0_1.length : Int) then (impl_merge.l0 kj8 (x0_1.drop 1) x1_1 y326) else (none)) = some r := by first | (rw [hy326]; with_reducible exact H) | (have H2_ := (Option.bind_some _ _).symm.trans H; rw [hy326]; with_reducible exact H2_) | (have H2_ := (Option.bind_some _ _).symm.trans H; with_reducible exact H2_) | with_reducible exact H | (rw [hy326]; exact H) | exact H
                            have Ny326 := Aside0.mk hy326
                            clear hy326
                            by_cases c33 : 1 ≤ (x0_1.length : Int)
                            · rw [if_pos c33] at H
                              have c33b0 := eq_true c33
                              have c33b1 : decide (1 ≤ (x0_1.length : Int)) = true := decide_eq_true c33
                              clear c33
                              obtain ⟨y329, hy329⟩ : ∃ y_ : List (S37), y_ = (x0_1.drop 1) := ⟨_, rfl⟩
                              replace H : (impl_merge.l0 kj8 y329 x1_1 y326) = some r := by first | (rw [hy329]; with_reducible exact H) | (have H2_ := (Option.bind_some _ _).symm.trans H; rw [hy329]; with_reducible exact H2_) | (have H2_ := (Option.bind_some _ _).symm.trans H; with_reducible exact H2_) | with_reducible exact H | (rw [hy329]; exact H) | exact H
                              have Ny329 := Aside0.mk hy329
                              clear hy329
                              have H' := Aside0.mk H
                              clear H
                              obtain ⟨Ao34, co34, eo34⟩ := Kd.V_slice HO_1.out
                              subst eo34
                              obtain ⟨Ao35, co35, eo35⟩ := Kd.V_slice HO_0.out
                              subst eo35
                              have p309 : 0 ≤ (0 : Int) := (by omega)
                              have q309 : 0 < (x0_1.length : Int) := of_decide_eq_true (by first | (with_reducible assumption) | assumption)
                              obtain ⟨ad309, e309, hx309_0, hx309_1⟩ := at_T37 (Kd.V_reads' HO_0.out).2.2 0 p309 q309
                              cases e309
                              have qi309 : (0 < x0_1.length) = True := eq_true (by omega)
                              (try rw [show ((0 : Int)).toNat = 0 from rfl] at hx309_0)
                              (try rw [show 0 * 2 = 0 from rfl] at hx309_0)
                              (try rw [Addr.add_zero'] at hx309_0)
                              (try rw [show ((0 : Int)).toNat = 0 from rfl] at hx309_1)
                              (try rw [show 0 * 2 = 0 from rfl] at hx309_1)
                              (try rw [Addr.add_zero'] at hx309_1)
                              replace p309 := eq_true p309
                              replace q309 := eq_true q309
                              have p310 : 0 ≤ (0 : Int) := (by omega)
                              have q310 : 0 < (x1_1.length : Int) := of_decide_eq_true (by first | (with_reducible assumption) | assumption)
                              obtain ⟨ad310, e310, hx310_0, hx310_1⟩ := at_T37 (Kd.V_reads' HO_1.out).2.2 0 p310 q310
                              cases e310
                              have qi310 : (0 < x1_1.length) = True := eq_true (by omega)
                              (try rw [show ((0 : Int)).toNat = 0 from rfl] at hx310_0)
                              (try rw [show 0 * 2 = 0 from rfl] at hx310_0)
                              (try rw [Addr.add_zero'] at hx310_0)
                              (try rw [show ((0 : Int)).toNat = 0 from rfl] at hx310_1)
                              (try rw [show 0 * 2 = 0 from rfl] at hx310_1)
                              (try rw [Addr.add_zero'] at hx310_1)
                              replace p310 := eq_true p310
                              replace q310 := eq_true q310
                              have p325 : 0 ≤ (0 : Int) := (by omega)
                              have q325 : 0 < (x0_1.length : Int) := of_decide_eq_true (by first | (with_reducible assumption) | assumption)
                              obtain ⟨ad325, e325, hx325_0, hx325_1⟩ := at_T37 (Kd.V_reads' HO_0.out).2.2 0 p325 q325
                              obtain rfl : ad309 = ad325 := (by injection e325)
                              have qi325 : (0 < x0_1.length) = True := eq_true (by omega)
                              (try rw [show ((0 : Int)).toNat = 0 from rfl] at hx325_0)
                              (try rw [show 0 * 2 = 0 from rfl] at hx325_0)
                              (try rw [Addr.add_zero'] at hx325_0)
                              (try rw [show ((0 : Int)).toNat = 0 from rfl] at hx325_1)
                              (try rw [show 0 * 2 = 0 from rfl] at hx325_1)
                              (try rw [Addr.add_zero'] at hx325_1)
                              replace p325 := eq_true p325
                              replace q325 := eq_true q325
                              go_wp2_with (first | ((with_reducible refine gate_builtin (b := .append) (xs := #[.tmp 49, .tmp 53]) rfl ?_); (try (refine gate_guard (by rfl) ?_; dsimp only)); at_builtin; refine Kd.R_append k37 (w0 := w) w.heap.size rfl (.tmp 49) (.tmp 53) 40 37 (.agg #[(.int .i64 0), (.int .i64 0)]) 16 rfl Try.underlying40 info37 rfl (by decide) (by omega) u5 x5_1 (⟨(rd_T37 x0_1 0).f0, (rd_T37 x0_1 0).f1⟩ : S37) [.int .i64 ((rd_T37 x0_1 0).f0), .int .i64 ((rd_T37 x0_1 0).f1)] (fun k_ => (w.heap.size ≤ k_)) (fun _ => False) rfl rfl ?aP (fun _ hk => hk.elim) ?aF ?aO ?aB ?aS ?aL ?_; (case aP => exact k37_mkM _ _ _ (⟨(rd_T37 x0_1 0).f0, (rd_T37 x0_1 0).f1⟩ : S37)); (case aB => exact (by repeat (first | (with_reducible first | exact HB.out | apply below_alloc | apply pw_below_drewN | apply below_drew1) | exact HB.out))); (case aF => exact (fun k_ hk => (Nat.le_trans (below_size (by repeat (first | (with_reducible first | exact HB.out | apply below_alloc | apply pw_below_drewN | apply below_drew1) | exact HB.out))) hk))); (case aO => exact (by (with_reducible repeat (first | apply Kd.R_alloc | apply Kd.R_drewN | apply Kd.R_drew)); exact HO_5.out)); (case aS => exact (below_size (by repeat (first | (with_reducible first | exact HB.out | apply below_alloc | apply pw_below_drewN | apply below_drew1) | exact HB.out)))); (case aL => have := LMc32.out; omega); intro v327 w36 ho hb hg hat; rw [← Ny326.out] at ho; have n0_ := Aside0.mk (Kd.V_afterv (ok := (fun k_ => ((P0_ k_ ∨ P1_ k_) ∨ w.heap.size ≤ k_))) (by (with_reducible repeat (first | apply Kd.V_alloc | apply Kd.V_drewN | apply Kd.V_drew)); exact HO_0.out) hg hat); have n1_ := Aside0.mk (Kd.V_afterv (ok := (fun k_ => ((P0_ k_ ∨ P1_ k_) ∨ w.heap.size ≤ k_))) (by (with_reducible repeat (first | apply Kd.V_alloc | apply Kd.V_drewN | apply Kd.V_drew)); exact HO_1.out) hg hat); have n2_ := Aside0.mk (hb); have n3_ := Aside0.mk (ho); clear HO_0; clear HO_1; clear HB; clear HO_5; have HO_0 := n0_; have HO_1 := n1_; have HB := n2_; have HO328 := n3_; clear n0_ n1_ n2_ n3_; clear ho hb hg hat; have q37 : (1 : Int) ≤ ((x0_1.length : Int) : Int) := of_decide_eq_true (by first | (with_reducible assumption) | assumption); obtain ⟨i037, hi037, _, hsz37, _⟩ := info_parts info37; have hroom37 : x0_1.length ≤ co35 := (Kd.V_reads' HO_0.out).2.1; have hC37 : Kd.F k37 _ _ (some ad309) x0_1.length x0_1 := (Kd.V_at (base := w.heap.size) HO_0.out).2.2; have hcut37 := cut_from (P := Try.prog) 40 37 .i64 Try.underlying40 hi037 2 hsz37 (some ad309) x0_1.length co35 1 (by omega) q37; have hr37 := Kd.F_cut (m := (1 : Int).toNat) (c := co35) hC37 (by omega) hroom37; obtain ⟨A37, hA37⟩ : ∃ A1, A1 = (if co35 = (1 : Int).toNat then (some ad309) else ((some ad309) : Option Addr).map (·.add ((1 : Int).toNat * 2))) := ⟨_, rfl⟩; obtain ⟨c37, hc37⟩ : ∃ c1, c1 = co35 - (1 : Int).toNat := ⟨_, rfl⟩; have hy37 : y329.length = x0_1.length - (1 : Int).toNat := (by rw [Ny329.out, List.length_drop] <;> omega); rw [show (x0_1).drop (1 : Int).toNat = y329 from Ny329.out.symm] at hr37; replace hr37 : Kd.F k37 _ _ A37 y329.length y329 := (by rw [hA37]; exact hr37); rw [← hy37, ← hA37, ← hc37] at hcut37; have HO333 := Aside0.mk (show Kd.V k37 37 _ w.heap.size _ (.slice A37 y329.length c37) y329 from Kd.V_mk (by rw [hy37, hc37]; exact Nat.sub_le_sub_right hroom37 _) hr37); have HC333 := Aside0.mk (show y329.length ≤ c37 from by rw [hy37, hc37]; exact Nat.sub_le_sub_right hroom37 _); clear hr37 hC37 hroom37 hi037 hsz37 hc37; have KY37 := Aside0.mk hy37; have KA37 := Aside0.mk hA37; clear hy37 hA37; replace q37 := eq_true q37))
                              repeat (go_quiet (first | ((with_reducible refine gate_builtin (b := .append) (xs := #[.tmp 49, .tmp 53]) rfl ?_); (try (refine gate_guard (by rfl) ?_; dsimp only)); at_builtin; refine Kd.R_append k37 (w0 := w) w.heap.size rfl (.tmp 49) (.tmp 53) 40 37 (.agg #[(.int .i64 0), (.int .i64 0)]) 16 rfl Try.underlying40 info37 rfl (by decide) (by omega) u5 x5_1 (⟨(rd_T37 x0_1 0).f0, (rd_T37 x0_1 0).f1⟩ : S37) [.int .i64 ((rd_T37 x0_1 0).f0), .int .i64 ((rd_T37 x0_1 0).f1)] (fun k_ => (w.heap.size ≤ k_)) (fun _ => False) rfl rfl ?aP (fun _ hk => hk.elim) ?aF ?aO ?aB ?aS ?aL ?_; (case aP => exact k37_mkM _ _ _ (⟨(rd_T37 x0_1 0).f0, (rd_T37 x0_1 0).f1⟩ : S37)); (case aB => exact (by repeat (first | (with_reducible first | exact HB.out | apply below_alloc | apply pw_below_drewN | apply below_drew1) | exact HB.out))); (case aF => exact (fun k_ hk => (Nat.le_trans (below_size (by repeat (first | (with_reducible first | exact HB.out | apply below_alloc | apply pw_below_drewN | apply below_drew1) | exact HB.out))) hk))); (case aO => exact (by (with_reducible repeat (first | apply Kd.R_alloc | apply Kd.R_drewN | apply Kd.R_drew)); exact HO_5.out)); (case aS => exact (below_size (by repeat (first | (with_reducible first | exact HB.out | apply below_alloc | apply pw_below_drewN | apply below_drew1) | exact HB.out)))); (case aL => have := LMc32.out; omega); intro v327 w36 ho hb hg hat; rw [← Ny326.out] at ho; have n0_ := Aside0.mk (Kd.V_afterv (ok := (fun k_ => ((P0_ k_ ∨ P1_ k_) ∨ w.heap.size ≤ k_))) (by (with_reducible repeat (first | apply Kd.V_alloc | apply Kd.V_drewN | apply Kd.V_drew)); exact HO_0.out) hg hat); have n1_ := Aside0.mk (Kd.V_afterv (ok := (fun k_ => ((P0_ k_ ∨ P1_ k_) ∨ w.heap.size ≤ k_))) (by (with_reducible repeat (first | apply Kd.V_alloc | apply Kd.V_drewN | apply Kd.V_drew)); exact HO_1.out) hg hat); have n2_ := Aside0.mk (hb); have n3_ := Aside0.mk (ho); clear HO_0; clear HO_1; clear HB; clear HO_5; have HO_0 := n0_; have HO_1 := n1_; have HB := n2_; have HO328 := n3_; clear n0_ n1_ n2_ n3_; clear ho hb hg hat; have q37 : (1 : Int) ≤ ((x0_1.length : Int) : Int) := of_decide_eq_true (by first | (with_reducible assumption) | assumption); obtain ⟨i037, hi037, _, hsz37, _⟩ := info_parts info37; have hroom37 : x0_1.length ≤ co35 := (Kd.V_reads' HO_0.out).2.1; have hC37 : Kd.F k37 _ _ (some ad309) x0_1.length x0_1 := (Kd.V_at (base := w.heap.size) HO_0.out).2.2; have hcut37 := cut_from (P := Try.prog) 40 37 .i64 Try.underlying40 hi037 2 hsz37 (some ad309) x0_1.length co35 1 (by omega) q37; have hr37 := Kd.F_cut (m := (1 : Int).toNat) (c := co35) hC37 (by omega) hroom37; obtain ⟨A37, hA37⟩ : ∃ A1, A1 = (if co35 = (1 : Int).toNat then (some ad309) else ((some ad309) : Option Addr).map (·.add ((1 : Int).toNat * 2))) := ⟨_, rfl⟩; obtain ⟨c37, hc37⟩ : ∃ c1, c1 = co35 - (1 : Int).toNat := ⟨_, rfl⟩; have hy37 : y329.length = x0_1.length - (1 : Int).toNat := (by rw [Ny329.out, List.length_drop] <;> omega); rw [show (x0_1).drop (1 : Int).toNat = y329 from Ny329.out.symm] at hr37; replace hr37 : Kd.F k37 _ _ A37 y329.length y329 := (by rw [hA37]; exact hr37); rw [← hy37, ← hA37, ← hc37] at hcut37; have HO333 := Aside0.mk (show Kd.V k37 37 _ w.heap.size _ (.slice A37 y329.length c37) y329 from Kd.V_mk (by rw [hy37, hc37]; exact Nat.sub_le_sub_right hroom37 _) hr37); have HC333 := Aside0.mk (show y329.length ≤ c37 from by rw [hy37, hc37]; exact Nat.sub_le_sub_right hroom37 _); clear hr37 hC37 hroom37 hi037 hsz37 hc37; have KY37 := Aside0.mk hy37; have KA37 := Aside0.mk hA37; clear hy37 hA37; replace q37 := eq_true q37)); try go_wp2_with (first | ((with_reducible refine gate_builtin (b := .append) (xs := #[.tmp 49, .tmp 53]) rfl ?_); (try (refine gate_guard (by rfl) ?_; dsimp only)); at_builtin; refine Kd.R_append k37 (w0 := w) w.heap.size rfl (.tmp 49) (.tmp 53) 40 37 (.agg #[(.int .i64 0), (.int .i64 0)]) 16 rfl Try.underlying40 info37 rfl (by decide) (by omega) u5 x5_1 (⟨(rd_T37 x0_1 0).f0, (rd_T37 x0_1 0).f1⟩ : S37) [.int .i64 ((rd_T37 x0_1 0).f0), .int .i64 ((rd_T37 x0_1 0).f1)] (fun k_ => (w.heap.size ≤ k_)) (fun _ => False) rfl rfl ?aP (fun _ hk => hk.elim) ?aF ?aO ?aB ?aS ?aL ?_; (case aP => exact k37_mkM _ _ _ (⟨(rd_T37 x0_1 0).f0, (rd_T37 x0_1 0).f1⟩ : S37)); (case aB => exact (by repeat (first | (with_reducible first | exact HB.out | apply below_alloc | apply pw_below_drewN | apply below_drew1) | exact HB.out))); (case aF => exact (fun k_ hk => (Nat.le_trans (below_size (by repeat (first | (with_reducible first | exact HB.out | apply below_alloc | apply pw_below_drewN | apply below_drew1) | exact HB.out))) hk))); (case aO => exact (by (with_reducible repeat (first | apply Kd.R_alloc | apply Kd.R_drewN | apply Kd.R_drew)); exact HO_5.out)); (case aS => exact (below_size (by repeat (first | (with_reducible first | exact HB.out | apply below_alloc | apply pw_below_drewN | apply below_drew1) | exact HB.out)))); (case aL => have := LMc32.out; omega); intro v327 w36 ho hb hg hat; rw [← Ny326.out] at ho; have n0_ := Aside0.mk (Kd.V_afterv (ok := (fun k_ => ((P0_ k_ ∨ P1_ k_) ∨ w.heap.size ≤ k_))) (by (with_reducible repeat (first | apply Kd.V_alloc | apply Kd.V_drewN | apply Kd.V_drew)); exact HO_0.out) hg hat); have n1_ := Aside0.mk (Kd.V_afterv (ok := (fun k_ => ((P0_ k_ ∨ P1_ k_) ∨ w.heap.size ≤ k_))) (by (with_reducible repeat (first | apply Kd.V_alloc | apply Kd.V_drewN | apply Kd.V_drew)); exact HO_1.out) hg hat); have n2_ := Aside0.mk (hb); have n3_ := Aside0.mk (ho); clear HO_0; clear HO_1; clear HB; clear HO_5; have HO_0 := n0_; have HO_1 := n1_; have HB := n2_; have HO328 := n3_; clear n0_ n1_ n2_ n3_; clear ho hb hg hat; have q37 : (1 : Int) ≤ ((x0_1.length : Int) : Int) := of_decide_eq_true (by first | (with_reducible assumption) | assumption); obtain ⟨i037, hi037, _, hsz37, _⟩ := info_parts info37; have hroom37 : x0_1.length ≤ co35 := (Kd.V_reads' HO_0.out).2.1; have hC37 : Kd.F k37 _ _ (some ad309) x0_1.length x0_1 := (Kd.V_at (base := w.heap.size) HO_0.out).2.2; have hcut37 := cut_from (P := Try.prog) 40 37 .i64 Try.underlying40 hi037 2 hsz37 (some ad309) x0_1.length co35 1 (by omega) q37; have hr37 := Kd.F_cut (m := (1 : Int).toNat) (c := co35) hC37 (by omega) hroom37; obtain ⟨A37, hA37⟩ : ∃ A1, A1 = (if co35 = (1 : Int).toNat then (some ad309) else ((some ad309) : Option Addr).map (·.add ((1 : Int).toNat * 2))) := ⟨_, rfl⟩; obtain ⟨c37, hc37⟩ : ∃ c1, c1 = co35 - (1 : Int).toNat := ⟨_, rfl⟩; have hy37 : y329.length = x0_1.length - (1 : Int).toNat := (by rw [Ny329.out, List.length_drop] <;> omega); rw [show (x0_1).drop (1 : Int).toNat = y329 from Ny329.out.symm] at hr37; replace hr37 : Kd.F k37 _ _ A37 y329.length y329 := (by rw [hA37]; exact hr37); rw [← hy37, ← hA37, ← hc37] at hcut37; have HO333 := Aside0.mk (show Kd.V k37 37 _ w.heap.size _ (.slice A37 y329.length c37) y329 from Kd.V_mk (by rw [hy37, hc37]; exact Nat.sub_le_sub_right hroom37 _) hr37); have HC333 := Aside0.mk (show y329.length ≤ c37 from by rw [hy37, hc37]; exact Nat.sub_le_sub_right hroom37 _); clear hr37 hC37 hroom37 hi037 hsz37 hc37; have KY37 := Aside0.mk hy37; have KA37 := Aside0.mk hA37; clear hy37 hA37; replace q37 := eq_true q37)))
                              go_roundg kj8
                              case measure => have := HK1.out; have := HJ2.out; have := HJ8.out; omega
                              case rel => exact ⟨(y329), (x1_1), (y326), H', ⟨by have := HK1.out; have := HJ2.out; have := HJ8.out; omega⟩, ⟨by (with_reducible repeat (first | apply Kd.V_alloc | apply Kd.V_drewN | apply Kd.V_drew)); exact HO333.out⟩, ⟨by (with_reducible repeat (first | apply Kd.V_alloc | apply Kd.V_drewN | apply Kd.V_drew)); exact HO_1.out⟩, ⟨by (with_reducible repeat (first | apply Kd.R_alloc | apply Kd.R_drewN | apply Kd.R_drew)); exact HO328.out⟩, ⟨by repeat (first | (with_reducible first | exact HB.out | apply below_alloc | apply pw_below_drewN | apply below_drew1) | exact HB.out)⟩⟩
                            · rw [if_neg c33] at H
                              exact absurd H (by simp)
                          · rw [if_neg c32] at H
                            exact absurd H (by simp)
                      · rw [if_neg c22] at H
                        exact absurd H (by simp)
                    · rw [if_neg c21] at H
                      exact absurd H (by simp)
                  · rw [if_neg c20] at H
                    have c20b0 : decide (0 < (x1_1.length : Int)) = false := decide_eq_false c20
                    have c20b1 : decide (0 < x1_1.length) = false := decide_eq_false (by omega)
                    clear c20
                    by_cases c38 : 0 < (x0_1.length : Int)
                    · rw [if_pos c38] at H
                      have c38b0 : decide (0 < (x0_1.length : Int)) = true := decide_eq_true c38
                      have c38b1 : decide (0 < x0_1.length) = true := decide_eq_true (by omega)
                      clear c38
                      by_cases c39 : x5_1.length < 8796093022208
                      · rw [if_pos c39] at H
                        have LMc39 := Aside0.mk c39
                        clear c39
                        obtain ⟨y335, hy335⟩ : ∃ y_ : List (S37), y_ = (x5_1 ++ [(⟨(rd_T37 x0_1 0).f0, (rd_T37 x0_1 0).f1⟩ : S37)]) := ⟨_, rfl⟩
                        replace H : (if 1 ≤ (x0_1.length : Int) then (impl_merge.l0 kj8 (x0_1.drop 1) x1_1 y335) else (none)) = some r := by first | (rw [hy335]; with_reducible exact H) | (have H2_ := (Option.bind_some _ _).symm.trans H; rw [hy335]; with_reducible exact H2_) | (have H2_ := (Option.bind_some _ _).symm.trans H; with_reducible exact H2_) | with_reducible exact H | (rw [hy335]; exact H) | exact H
                        have Ny335 := Aside0.mk hy335
                        clear hy335
                        by_cases c40 : 1 ≤ (x0_1.length : Int)
                        · rw [if_pos c40] at H
                          have c40b0 := eq_true c40
                          have c40b1 : decide (1 ≤ (x0_1.length : Int)) = true := decide_eq_true c40
                          clear c40
                          obtain ⟨y338, hy338⟩ : ∃ y_ : List (S37), y_ = (x0_1.drop 1) := ⟨_, rfl⟩
                          replace H : (impl_merge.l0 kj8 y338 x1_1 y335) = some r := by first | (rw [hy338]; with_reducible exact H) | (have H2_ := (Option.bind_some _ _).symm.trans H; rw [hy338]; with_reducible exact H2_) | (have H2_ := (Option.bind_some _ _).symm.trans H; with_reducible exact H2_) | with_reducible exact H | (rw [hy338]; exact H) | exact H
                          have Ny338 := Aside0.mk hy338
                          clear hy338
                          have H' := Aside0.mk H
                          clear H
                          obtain ⟨Ao41, co41, eo41⟩ := Kd.V_slice HO_1.out
                          subst eo41
                          obtain ⟨Ao42, co42, eo42⟩ := Kd.V_slice HO_0.out
                          subst eo42
                          have p334 : 0 ≤ (0 : Int) := (by omega)
                          have q334 : 0 < (x0_1.length : Int) := of_decide_eq_true (by first | (with_reducible assumption) | assumption)
                          obtain ⟨ad334, e334, hx334_0, hx334_1⟩ := at_T37 (Kd.V_reads' HO_0.out).2.2 0 p334 q334
                          cases e334
                          have qi334 : (0 < x0_1.length) = True := eq_true (by omega)
                          (try rw [show ((0 : Int)).toNat = 0 from rfl] at hx334_0)
                          (try rw [show 0 * 2 = 0 from rfl] at hx334_0)
                          (try rw [Addr.add_zero'] at hx334_0)
                          (try rw [show ((0 : Int)).toNat = 0 from rfl] at hx334_1)
                          (try rw [show 0 * 2 = 0 from rfl] at hx334_1)
                          (try rw [Addr.add_zero'] at hx334_1)
                          replace p334 := eq_true p334
                          replace q334 := eq_true q334
                          go_wp2_with (first | ((with_reducible refine gate_builtin (b := .append) (xs := #[.tmp 49, .tmp 53]) rfl ?_); (try (refine gate_guard (by rfl) ?_; dsimp only)); at_builtin; refine Kd.R_append k37 (w0 := w) w.heap.size rfl (.tmp 49) (.tmp 53) 40 37 (.agg #[(.int .i64 0), (.int .i64 0)]) 16 rfl Try.underlying40 info37 rfl (by decide) (by omega) u5 x5_1 (⟨(rd_T37 x0_1 0).f0, (rd_T37 x0_1 0).f1⟩ : S37) [.int .i64 ((rd_T37 x0_1 0).f0), .int .i64 ((rd_T37 x0_1 0).f1)] (fun k_ => (w.heap.size ≤ k_)) (fun _ => False) rfl rfl ?aP (fun _ hk => hk.elim) ?aF ?aO ?aB ?aS ?aL ?_; (case aP => exact k37_mkM _ _ _ (⟨(rd_T37 x0_1 0).f0, (rd_T37 x0_1 0).f1⟩ : S37)); (case aB => exact (by repeat (first | (with_reducible first | exact HB.out | apply below_alloc | apply pw_below_drewN | apply below_drew1) | exact HB.out))); (case aF => exact (fun k_ hk => (Nat.le_trans (below_size (by repeat (first | (with_reducible first | exact HB.out | apply below_alloc | apply pw_below_drewN | apply below_drew1) | exact HB.out))) hk))); (case aO => exact (by (with_reducible repeat (first | apply Kd.R_alloc | apply Kd.R_drewN | apply Kd.R_drew)); exact HO_5.out)); (case aS => exact (below_size (by repeat (first | (with_reducible first | exact HB.out | apply below_alloc | apply pw_below_drewN | apply below_drew1) | exact HB.out)))); (case aL => have := LMc39.out; omega); intro v336 w43 ho hb hg hat; rw [← Ny335.out] at ho; have n0_ := Aside0.mk (Kd.V_afterv (ok := (fun k_ => ((P0_ k_ ∨ P1_ k_) ∨ w.heap.size ≤ k_))) (by (with_reducible repeat (first | apply Kd.V_alloc | apply Kd.V_drewN | apply Kd.V_drew)); exact HO_0.out) hg hat); have n1_ := Aside0.mk (Kd.V_afterv (ok := (fun k_ => ((P0_ k_ ∨ P1_ k_) ∨ w.heap.size ≤ k_))) (by (with_reducible repeat (first | apply Kd.V_alloc | apply Kd.V_drewN | apply Kd.V_drew)); exact HO_1.out) hg hat); have n2_ := Aside0.mk (hb); have n3_ := Aside0.mk (ho); clear HO_0; clear HO_1; clear HB; clear HO_5; have HO_0 := n0_; have HO_1 := n1_; have HB := n2_; have HO337 := n3_; clear n0_ n1_ n2_ n3_; clear ho hb hg hat; have q44 : (1 : Int) ≤ ((x0_1.length : Int) : Int) := of_decide_eq_true (by first | (with_reducible assumption) | assumption); obtain ⟨i044, hi044, _, hsz44, _⟩ := info_parts info37; have hroom44 : x0_1.length ≤ co42 := (Kd.V_reads' HO_0.out).2.1; have hC44 : Kd.F k37 _ _ (some ad334) x0_1.length x0_1 := (Kd.V_at (base := w.heap.size) HO_0.out).2.2; have hcut44 := cut_from (P := Try.prog) 40 37 .i64 Try.underlying40 hi044 2 hsz44 (some ad334) x0_1.length co42 1 (by omega) q44; have hr44 := Kd.F_cut (m := (1 : Int).toNat) (c := co42) hC44 (by omega) hroom44; obtain ⟨A44, hA44⟩ : ∃ A1, A1 = (if co42 = (1 : Int).toNat then (some ad334) else ((some ad334) : Option Addr).map (·.add ((1 : Int).toNat * 2))) := ⟨_, rfl⟩; obtain ⟨c44, hc44⟩ : ∃ c1, c1 = co42 - (1 : Int).toNat := ⟨_, rfl⟩; have hy44 : y338.length = x0_1.length - (1 : Int).toNat := (by rw [Ny338.out, List.length_drop] <;> omega); rw [show (x0_1).drop (1 : Int).toNat = y338 from Ny338.out.symm] at hr44; replace hr44 : Kd.F k37 _ _ A44 y338.length y338 := (by rw [hA44]; exact hr44); rw [← hy44, ← hA44, ← hc44] at hcut44; have HO342 := Aside0.mk (show Kd.V k37 37 _ w.heap.size _ (.slice A44 y338.length c44) y338 from Kd.V_mk (by rw [hy44, hc44]; exact Nat.sub_le_sub_right hroom44 _) hr44); have HC342 := Aside0.mk (show y338.length ≤ c44 from by rw [hy44, hc44]; exact Nat.sub_le_sub_right hroom44 _); clear hr44 hC44 hroom44 hi044 hsz44 hc44; have KY44 := Aside0.mk hy44; have KA44 := Aside0.mk hA44; clear hy44 hA44; replace q44 := eq_true q44))
                          repeat (go_quiet (first | ((with_reducible refine gate_builtin (b := .append) (xs := #[.tmp 49, .tmp 53]) rfl ?_); (try (refine gate_guard (by rfl) ?_; dsimp only)); at_builtin; refine Kd.R_append k37 (w0 := w) w.heap.size rfl (.tmp 49) (.tmp 53) 40 37 (.agg #[(.int .i64 0), (.int .i64 0)]) 16 rfl Try.underlying40 info37 rfl (by decide) (by omega) u5 x5_1 (⟨(rd_T37 x0_1 0).f0, (rd_T37 x0_1 0).f1⟩ : S37) [.int .i64 ((rd_T37 x0_1 0).f0), .int .i64 ((rd_T37 x0_1 0).f1)] (fun k_ => (w.heap.size ≤ k_)) (fun _ => False) rfl rfl ?aP (fun _ hk => hk.elim) ?aF ?aO ?aB ?aS ?aL ?_; (case aP => exact k37_mkM _ _ _ (⟨(rd_T37 x0_1 0).f0, (rd_T37 x0_1 0).f1⟩ : S37)); (case aB => exact (by repeat (first | (with_reducible first | exact HB.out | apply below_alloc | apply pw_below_drewN | apply below_drew1) | exact HB.out))); (case aF => exact (fun k_ hk => (Nat.le_trans (below_size (by repeat (first | (with_reducible first | exact HB.out | apply below_alloc | apply pw_below_drewN | apply below_drew1) | exact HB.out))) hk))); (case aO => exact (by (with_reducible repeat (first | apply Kd.R_alloc | apply Kd.R_drewN | apply Kd.R_drew)); exact HO_5.out)); (case aS => exact (below_size (by repeat (first | (with_reducible first | exact HB.out | apply below_alloc | apply pw_below_drewN | apply below_drew1) | exact HB.out)))); (case aL => have := LMc39.out; omega); intro v336 w43 ho hb hg hat; rw [← Ny335.out] at ho; have n0_ := Aside0.mk (Kd.V_afterv (ok := (fun k_ => ((P0_ k_ ∨ P1_ k_) ∨ w.heap.size ≤ k_))) (by (with_reducible repeat (first | apply Kd.V_alloc | apply Kd.V_drewN | apply Kd.V_drew)); exact HO_0.out) hg hat); have n1_ := Aside0.mk (Kd.V_afterv (ok := (fun k_ => ((P0_ k_ ∨ P1_ k_) ∨ w.heap.size ≤ k_))) (by (with_reducible repeat (first | apply Kd.V_alloc | apply Kd.V_drewN | apply Kd.V_drew)); exact HO_1.out) hg hat); have n2_ := Aside0.mk (hb); have n3_ := Aside0.mk (ho); clear HO_0; clear HO_1; clear HB; clear HO_5; have HO_0 := n0_; have HO_1 := n1_; have HB := n2_; have HO337 := n3_; clear n0_ n1_ n2_ n3_; clear ho hb hg hat; have q44 : (1 : Int) ≤ ((x0_1.length : Int) : Int) := of_decide_eq_true (by first | (with_reducible assumption) | assumption); obtain ⟨i044, hi044, _, hsz44, _⟩ := info_parts info37; have hroom44 : x0_1.length ≤ co42 := (Kd.V_reads' HO_0.out).2.1; have hC44 : Kd.F k37 _ _ (some ad334) x0_1.length x0_1 := (Kd.V_at (base := w.heap.size) HO_0.out).2.2; have hcut44 := cut_from (P := Try.prog) 40 37 .i64 Try.underlying40 hi044 2 hsz44 (some ad334) x0_1.length co42 1 (by omega) q44; have hr44 := Kd.F_cut (m := (1 : Int).toNat) (c := co42) hC44 (by omega) hroom44; obtain ⟨A44, hA44⟩ : ∃ A1, A1 = (if co42 = (1 : Int).toNat then (some ad334) else ((some ad334) : Option Addr).map (·.add ((1 : Int).toNat * 2))) := ⟨_, rfl⟩; obtain ⟨c44, hc44⟩ : ∃ c1, c1 = co42 - (1 : Int).toNat := ⟨_, rfl⟩; have hy44 : y338.length = x0_1.length - (1 : Int).toNat := (by rw [Ny338.out, List.length_drop] <;> omega); rw [show (x0_1).drop (1 : Int).toNat = y338 from Ny338.out.symm] at hr44; replace hr44 : Kd.F k37 _ _ A44 y338.length y338 := (by rw [hA44]; exact hr44); rw [← hy44, ← hA44, ← hc44] at hcut44; have HO342 := Aside0.mk (show Kd.V k37 37 _ w.heap.size _ (.slice A44 y338.length c44) y338 from Kd.V_mk (by rw [hy44, hc44]; exact Nat.sub_le_sub_right hroom44 _) hr44); have HC342 := Aside0.mk (show y338.length ≤ c44 from by rw [hy44, hc44]; exact Nat.sub_le_sub_right hroom44 _); clear hr44 hC44 hroom44 hi044 hsz44 hc44; have KY44 := Aside0.mk hy44; have KA44 := Aside0.mk hA44; clear hy44 hA44; replace q44 := eq_true q44)); try go_wp2_with (first | ((with_reducible refine gate_builtin (b := .append) (xs := #[.tmp 49, .tmp 53]) rfl ?_); (try (refine gate_guard (by rfl) ?_; dsimp only)); at_builtin; refine Kd.R_append k37 (w0 := w) w.heap.size rfl (.tmp 49) (.tmp 53) 40 37 (.agg #[(.int .i64 0), (.int .i64 0)]) 16 rfl Try.underlying40 info37 rfl (by decide) (by omega) u5 x5_1 (⟨(rd_T37 x0_1 0).f0, (rd_T37 x0_1 0).f1⟩ : S37) [.int .i64 ((rd_T37 x0_1 0).f0), .int .i64 ((rd_T37 x0_1 0).f1)] (fun k_ => (w.heap.size ≤ k_)) (fun _ => False) rfl rfl ?aP (fun _ hk => hk.elim) ?aF ?aO ?aB ?aS ?aL ?_; (case aP => exact k37_mkM _ _ _ (⟨(rd_T37 x0_1 0).f0, (rd_T37 x0_1 0).f1⟩ : S37)); (case aB => exact (by repeat (first | (with_reducible first | exact HB.out | apply below_alloc | apply pw_below_drewN | apply below_drew1) | exact HB.out))); (case aF => exact (fun k_ hk => (Nat.le_trans (below_size (by repeat (first | (with_reducible first | exact HB.out | apply below_alloc | apply pw_below_drewN | apply below_drew1) | exact HB.out))) hk))); (case aO => exact (by (with_reducible repeat (first | apply Kd.R_alloc | apply Kd.R_drewN | apply Kd.R_drew)); exact HO_5.out)); (case aS => exact (below_size (by repeat (first | (with_reducible first | exact HB.out | apply below_alloc | apply pw_below_drewN | apply below_drew1) | exact HB.out)))); (case aL => have := LMc39.out; omega); intro v336 w43 ho hb hg hat; rw [← Ny335.out] at ho; have n0_ := Aside0.mk (Kd.V_afterv (ok := (fun k_ => ((P0_ k_ ∨ P1_ k_) ∨ w.heap.size ≤ k_))) (by (with_reducible repeat (first | apply Kd.V_alloc | apply Kd.V_drewN | apply Kd.V_drew)); exact HO_0.out) hg hat); have n1_ := Aside0.mk (Kd.V_afterv (ok := (fun k_ => ((P0_ k_ ∨ P1_ k_) ∨ w.heap.size ≤ k_))) (by (with_reducible repeat (first | apply Kd.V_alloc | apply Kd.V_drewN | apply Kd.V_drew)); exact HO_1.out) hg hat); have n2_ := Aside0.mk (hb); have n3_ := Aside0.mk (ho); clear HO_0; clear HO_1; clear HB; clear HO_5; have HO_0 := n0_; have HO_1 := n1_; have HB := n2_; have HO337 := n3_; clear n0_ n1_ n2_ n3_; clear ho hb hg hat; have q44 : (1 : Int) ≤ ((x0_1.length : Int) : Int) := of_decide_eq_true (by first | (with_reducible assumption) | assumption); obtain ⟨i044, hi044, _, hsz44, _⟩ := info_parts info37; have hroom44 : x0_1.length ≤ co42 := (Kd.V_reads' HO_0.out).2.1; have hC44 : Kd.F k37 _ _ (some ad334) x0_1.length x0_1 := (Kd.V_at (base := w.heap.size) HO_0.out).2.2; have hcut44 := cut_from (P := Try.prog) 40 37 .i64 Try.underlying40 hi044 2 hsz44 (some ad334) x0_1.length co42 1 (by omega) q44; have hr44 := Kd.F_cut (m := (1 : Int).toNat) (c := co42) hC44 (by omega) hroom44; obtain ⟨A44, hA44⟩ : ∃ A1, A1 = (if co42 = (1 : Int).toNat then (some ad334) else ((some ad334) : Option Addr).map (·.add ((1 : Int).toNat * 2))) := ⟨_, rfl⟩; obtain ⟨c44, hc44⟩ : ∃ c1, c1 = co42 - (1 : Int).toNat := ⟨_, rfl⟩; have hy44 : y338.length = x0_1.length - (1 : Int).toNat := (by rw [Ny338.out, List.length_drop] <;> omega); rw [show (x0_1).drop (1 : Int).toNat = y338 from Ny338.out.symm] at hr44; replace hr44 : Kd.F k37 _ _ A44 y338.length y338 := (by rw [hA44]; exact hr44); rw [← hy44, ← hA44, ← hc44] at hcut44; have HO342 := Aside0.mk (show Kd.V k37 37 _ w.heap.size _ (.slice A44 y338.length c44) y338 from Kd.V_mk (by rw [hy44, hc44]; exact Nat.sub_le_sub_right hroom44 _) hr44); have HC342 := Aside0.mk (show y338.length ≤ c44 from by rw [hy44, hc44]; exact Nat.sub_le_sub_right hroom44 _); clear hr44 hC44 hroom44 hi044 hsz44 hc44; have KY44 := Aside0.mk hy44; have KA44 := Aside0.mk hA44; clear hy44 hA44; replace q44 := eq_true q44)))
                          go_roundg kj8
                          case measure => have := HK1.out; have := HJ2.out; have := HJ8.out; omega
                          case rel => exact ⟨(y338), (x1_1), (y335), H', ⟨by have := HK1.out; have := HJ2.out; have := HJ8.out; omega⟩, ⟨by (with_reducible repeat (first | apply Kd.V_alloc | apply Kd.V_drewN | apply Kd.V_drew)); exact HO342.out⟩, ⟨by (with_reducible repeat (first | apply Kd.V_alloc | apply Kd.V_drewN | apply Kd.V_drew)); exact HO_1.out⟩, ⟨by (with_reducible repeat (first | apply Kd.R_alloc | apply Kd.R_drewN | apply Kd.R_drew)); exact HO337.out⟩, ⟨by repeat (first | (with_reducible first | exact HB.out | apply below_alloc | apply pw_below_drewN | apply below_drew1) | exact HB.out)⟩⟩
                        · rw [if_neg c40] at H
                          exact absurd H (by simp)
                      · rw [if_neg c39] at H
                        exact absurd H (by simp)
                    · rw [if_neg c38] at H
                      exact absurd H (by simp)
                · replace c19 := Bool.eq_false_iff.mpr c19
                  subst c19
                  have H1 : (if 0 < (x1_1.length : Int) then (if x5_1.length < 8796093022208 then (if 1 ≤ (x1_1.length : Int) then (impl_merge.l0 kj8 x0_1 (x1_1.drop 1) (x5_1 ++ [(⟨(rd_T37 x1_1 0).f0, (rd_T37 x1_1 0).f1⟩ : S37)])) else (none)) else (none)) else (none)) = some r := by rw [if_neg (show ¬ (false = true) by decide)] at H; exact H
                  clear H
                  have H := H1
                  clear H1
                  by_cases c45 : 0 < (x1_1.length : Int)
                  · rw [if_pos c45] at H
                    have c45b0 : decide (0 < (x1_1.length : Int)) = true := decide_eq_true c45
                    have c45b1 : decide (0 < x1_1.length) = true := decide_eq_true (by omega)
                    clear c45
                    by_cases c46 : x5_1.length < 8796093022208
                    · rw [if_pos c46] at H
                      have LMc46 := Aside0.mk c46
                      clear c46
                      obtain ⟨y344, hy344⟩ : ∃ y_ : List (S37), y_ = (x5_1 ++ [(⟨(rd_T37 x1_1 0).f0, (rd_T37 x1_1 0).f1⟩ : S37)]) := ⟨_, rfl⟩
                      replace H : (if 1 ≤ (x1_1.length : Int) then (impl_merge.l0 kj8 x0_1 (x1_1.drop 1) y344) else (none)) = some r := by first | (rw [hy344]; with_reducible exact H) | (have H2_ := (Option.bind_some _ _).symm.trans H; rw [hy344]; with_reducible exact H2_) | (have H2_ := (Option.bind_some _ _).symm.trans H; with_reducible exact H2_) | with_reducible exact H | (rw [hy344]; exact H) | exact H
                      have Ny344 := Aside0.mk hy344
                      clear hy344
                      by_cases c47 : 1 ≤ (x1_1.length : Int)
                      · rw [if_pos c47] at H
                        have c47b0 := eq_true c47
                        have c47b1 : decide (1 ≤ (x1_1.length : Int)) = true := decide_eq_true c47
                        clear c47
                        obtain ⟨y347, hy347⟩ : ∃ y_ : List (S37), y_ = (x1_1.drop 1) := ⟨_, rfl⟩
                        replace H : (impl_merge.l0 kj8 x0_1 y347 y344) = some r := by first | (rw [hy347]; with_reducible exact H) | (have H2_ := (Option.bind_some _ _).symm.trans H; rw [hy347]; with_reducible exact H2_) | (have H2_ := (Option.bind_some _ _).symm.trans H; with_reducible exact H2_) | with_reducible exact H | (rw [hy347]; exact H) | exact H
                        have Ny347 := Aside0.mk hy347
                        clear hy347
                        have H' := Aside0.mk H
                        clear H
                        obtain ⟨Ao48, co48, eo48⟩ := Kd.V_slice HO_1.out
                        subst eo48
                        have p343 : 0 ≤ (0 : Int) := (by omega)
                        have q343 : 0 < (x1_1.length : Int) := of_decide_eq_true (by first | (with_reducible assumption) | assumption)
                        obtain ⟨ad343, e343, hx343_0, hx343_1⟩ := at_T37 (Kd.V_reads' HO_1.out).2.2 0 p343 q343
                        cases e343
                        have qi343 : (0 < x1_1.length) = True := eq_true (by omega)
                        (try rw [show ((0 : Int)).toNat = 0 from rfl] at hx343_0)
                        (try rw [show 0 * 2 = 0 from rfl] at hx343_0)
                        (try rw [Addr.add_zero'] at hx343_0)
                        (try rw [show ((0 : Int)).toNat = 0 from rfl] at hx343_1)
                        (try rw [show 0 * 2 = 0 from rfl] at hx343_1)
                        (try rw [Addr.add_zero'] at hx343_1)
                        replace p343 := eq_true p343
                        replace q343 := eq_true q343
                        go_wp2_with (first | ((with_reducible refine gate_builtin (b := .append) (xs := #[.tmp 57, .tmp 61]) rfl ?_); (try (refine gate_guard (by rfl) ?_; dsimp only)); at_builtin; refine Kd.R_append k37 (w0 := w) w.heap.size rfl (.tmp 57) (.tmp 61) 40 37 (.agg #[(.int .i64 0), (.int .i64 0)]) 16 rfl Try.underlying40 info37 rfl (by decide) (by omega) u5 x5_1 (⟨(rd_T37 x1_1 0).f0, (rd_T37 x1_1 0).f1⟩ : S37) [.int .i64 ((rd_T37 x1_1 0).f0), .int .i64 ((rd_T37 x1_1 0).f1)] (fun k_ => (w.heap.size ≤ k_)) (fun _ => False) rfl rfl ?aP (fun _ hk => hk.elim) ?aF ?aO ?aB ?aS ?aL ?_; (case aP => exact k37_mkM _ _ _ (⟨(rd_T37 x1_1 0).f0, (rd_T37 x1_1 0).f1⟩ : S37)); (case aB => exact (by repeat (first | (with_reducible first | exact HB.out | apply below_alloc | apply pw_below_drewN | apply below_drew1) | exact HB.out))); (case aF => exact (fun k_ hk => (Nat.le_trans (below_size (by repeat (first | (with_reducible first | exact HB.out | apply below_alloc | apply pw_below_drewN | apply below_drew1) | exact HB.out))) hk))); (case aO => exact (by (with_reducible repeat (first | apply Kd.R_alloc | apply Kd.R_drewN | apply Kd.R_drew)); exact HO_5.out)); (case aS => exact (below_size (by repeat (first | (with_reducible first | exact HB.out | apply below_alloc | apply pw_below_drewN | apply below_drew1) | exact HB.out)))); (case aL => have := LMc46.out; omega); intro v345 w49 ho hb hg hat; rw [← Ny344.out] at ho; have n0_ := Aside0.mk (Kd.V_afterv (ok := (fun k_ => ((P0_ k_ ∨ P1_ k_) ∨ w.heap.size ≤ k_))) (by (with_reducible repeat (first | apply Kd.V_alloc | apply Kd.V_drewN | apply Kd.V_drew)); exact HO_0.out) hg hat); have n1_ := Aside0.mk (Kd.V_afterv (ok := (fun k_ => ((P0_ k_ ∨ P1_ k_) ∨ w.heap.size ≤ k_))) (by (with_reducible repeat (first | apply Kd.V_alloc | apply Kd.V_drewN | apply Kd.V_drew)); exact HO_1.out) hg hat); have n2_ := Aside0.mk (hb); have n3_ := Aside0.mk (ho); clear HO_0; clear HO_1; clear HB; clear HO_5; have HO_0 := n0_; have HO_1 := n1_; have HB := n2_; have HO346 := n3_; clear n0_ n1_ n2_ n3_; clear ho hb hg hat; have q50 : (1 : Int) ≤ ((x1_1.length : Int) : Int) := of_decide_eq_true (by first | (with_reducible assumption) | assumption); obtain ⟨i050, hi050, _, hsz50, _⟩ := info_parts info37; have hroom50 : x1_1.length ≤ co48 := (Kd.V_reads' HO_1.out).2.1; have hC50 : Kd.F k37 _ _ (some ad343) x1_1.length x1_1 := (Kd.V_at (base := w.heap.size) HO_1.out).2.2; have hcut50 := cut_from (P := Try.prog) 40 37 .i64 Try.underlying40 hi050 2 hsz50 (some ad343) x1_1.length co48 1 (by omega) q50; have hr50 := Kd.F_cut (m := (1 : Int).toNat) (c := co48) hC50 (by omega) hroom50; obtain ⟨A50, hA50⟩ : ∃ A1, A1 = (if co48 = (1 : Int).toNat then (some ad343) else ((some ad343) : Option Addr).map (·.add ((1 : Int).toNat * 2))) := ⟨_, rfl⟩; obtain ⟨c50, hc50⟩ : ∃ c1, c1 = co48 - (1 : Int).toNat := ⟨_, rfl⟩; have hy50 : y347.length = x1_1.length - (1 : Int).toNat := (by rw [Ny347.out, List.length_drop] <;> omega); rw [show (x1_1).drop (1 : Int).toNat = y347 from Ny347.out.symm] at hr50; replace hr50 : Kd.F k37 _ _ A50 y347.length y347 := (by rw [hA50]; exact hr50); rw [← hy50, ← hA50, ← hc50] at hcut50; have HO351 := Aside0.mk (show Kd.V k37 37 _ w.heap.size _ (.slice A50 y347.length c50) y347 from Kd.V_mk (by rw [hy50, hc50]; exact Nat.sub_le_sub_right hroom50 _) hr50); have HC351 := Aside0.mk (show y347.length ≤ c50 from by rw [hy50, hc50]; exact Nat.sub_le_sub_right hroom50 _); clear hr50 hC50 hroom50 hi050 hsz50 hc50; have KY50 := Aside0.mk hy50; have KA50 := Aside0.mk hA50; clear hy50 hA50; replace q50 := eq_true q50))
                        repeat (go_quiet (first | ((with_reducible refine gate_builtin (b := .append) (xs := #[.tmp 57, .tmp 61]) rfl ?_); (try (refine gate_guard (by rfl) ?_; dsimp only)); at_builtin; refine Kd.R_append k37 (w0 := w) w.heap.size rfl (.tmp 57) (.tmp 61) 40 37 (.agg #[(.int .i64 0), (.int .i64 0)]) 16 rfl Try.underlying40 info37 rfl (by decide) (by omega) u5 x5_1 (⟨(rd_T37 x1_1 0).f0, (rd_T37 x1_1 0).f1⟩ : S37) [.int .i64 ((rd_T37 x1_1 0).f0), .int .i64 ((rd_T37 x1_1 0).f1)] (fun k_ => (w.heap.size ≤ k_)) (fun _ => False) rfl rfl ?aP (fun _ hk => hk.elim) ?aF ?aO ?aB ?aS ?aL ?_; (case aP => exact k37_mkM _ _ _ (⟨(rd_T37 x1_1 0).f0, (rd_T37 x1_1 0).f1⟩ : S37)); (case aB => exact (by repeat (first | (with_reducible first | exact HB.out | apply below_alloc | apply pw_below_drewN | apply below_drew1) | exact HB.out))); (case aF => exact (fun k_ hk => (Nat.le_trans (below_size (by repeat (first | (with_reducible first | exact HB.out | apply below_alloc | apply pw_below_drewN | apply below_drew1) | exact HB.out))) hk))); (case aO => exact (by (with_reducible repeat (first | apply Kd.R_alloc | apply Kd.R_drewN | apply Kd.R_drew)); exact HO_5.out)); (case aS => exact (below_size (by repeat (first | (with_reducible first | exact HB.out | apply below_alloc | apply pw_below_drewN | apply below_drew1) | exact HB.out)))); (case aL => have := LMc46.out; omega); intro v345 w49 ho hb hg hat; rw [← Ny344.out] at ho; have n0_ := Aside0.mk (Kd.V_afterv (ok := (fun k_ => ((P0_ k_ ∨ P1_ k_) ∨ w.heap.size ≤ k_))) (by (with_reducible repeat (first | apply Kd.V_alloc | apply Kd.V_drewN | apply Kd.V_drew)); exact HO_0.out) hg hat); have n1_ := Aside0.mk (Kd.V_afterv (ok := (fun k_ => ((P0_ k_ ∨ P1_ k_) ∨ w.heap.size ≤ k_))) (by (with_reducible repeat (first | apply Kd.V_alloc | apply Kd.V_drewN | apply Kd.V_drew)); exact HO_1.out) hg hat); have n2_ := Aside0.mk (hb); have n3_ := Aside0.mk (ho); clear HO_0; clear HO_1; clear HB; clear HO_5; have HO_0 := n0_; have HO_1 := n1_; have HB := n2_; have HO346 := n3_; clear n0_ n1_ n2_ n3_; clear ho hb hg hat; have q50 : (1 : Int) ≤ ((x1_1.length : Int) : Int) := of_decide_eq_true (by first | (with_reducible assumption) | assumption); obtain ⟨i050, hi050, _, hsz50, _⟩ := info_parts info37; have hroom50 : x1_1.length ≤ co48 := (Kd.V_reads' HO_1.out).2.1; have hC50 : Kd.F k37 _ _ (some ad343) x1_1.length x1_1 := (Kd.V_at (base := w.heap.size) HO_1.out).2.2; have hcut50 := cut_from (P := Try.prog) 40 37 .i64 Try.underlying40 hi050 2 hsz50 (some ad343) x1_1.length co48 1 (by omega) q50; have hr50 := Kd.F_cut (m := (1 : Int).toNat) (c := co48) hC50 (by omega) hroom50; obtain ⟨A50, hA50⟩ : ∃ A1, A1 = (if co48 = (1 : Int).toNat then (some ad343) else ((some ad343) : Option Addr).map (·.add ((1 : Int).toNat * 2))) := ⟨_, rfl⟩; obtain ⟨c50, hc50⟩ : ∃ c1, c1 = co48 - (1 : Int).toNat := ⟨_, rfl⟩; have hy50 : y347.length = x1_1.length - (1 : Int).toNat := (by rw [Ny347.out, List.length_drop] <;> omega); rw [show (x1_1).drop (1 : Int).toNat = y347 from Ny347.out.symm] at hr50; replace hr50 : Kd.F k37 _ _ A50 y347.length y347 := (by rw [hA50]; exact hr50); rw [← hy50, ← hA50, ← hc50] at hcut50; have HO351 := Aside0.mk (show Kd.V k37 37 _ w.heap.size _ (.slice A50 y347.length c50) y347 from Kd.V_mk (by rw [hy50, hc50]; exact Nat.sub_le_sub_right hroom50 _) hr50); have HC351 := Aside0.mk (show y347.length ≤ c50 from by rw [hy50, hc50]; exact Nat.sub_le_sub_right hroom50 _); clear hr50 hC50 hroom50 hi050 hsz50 hc50; have KY50 := Aside0.mk hy50; have KA50 := Aside0.mk hA50; clear hy50 hA50; replace q50 := eq_true q50)); try go_wp2_with (first | ((with_reducible refine gate_builtin (b := .append) (xs := #[.tmp 57, .tmp 61]) rfl ?_); (try (refine gate_guard (by rfl) ?_; dsimp only)); at_builtin; refine Kd.R_append k37 (w0 := w) w.heap.size rfl (.tmp 57) (.tmp 61) 40 37 (.agg #[(.int .i64 0), (.int .i64 0)]) 16 rfl Try.underlying40 info37 rfl (by decide) (by omega) u5 x5_1 (⟨(rd_T37 x1_1 0).f0, (rd_T37 x1_1 0).f1⟩ : S37) [.int .i64 ((rd_T37 x1_1 0).f0), .int .i64 ((rd_T37 x1_1 0).f1)] (fun k_ => (w.heap.size ≤ k_)) (fun _ => False) rfl rfl ?aP (fun _ hk => hk.elim) ?aF ?aO ?aB ?aS ?aL ?_; (case aP => exact k37_mkM _ _ _ (⟨(rd_T37 x1_1 0).f0, (rd_T37 x1_1 0).f1⟩ : S37)); (case aB => exact (by repeat (first | (with_reducible first | exact HB.out | apply below_alloc | apply pw_below_drewN | apply below_drew1) | exact HB.out))); (case aF => exact (fun k_ hk => (Nat.le_trans (below_size (by repeat (first | (with_reducible first | exact HB.out | apply below_alloc | apply pw_below_drewN | apply below_drew1) | exact HB.out))) hk))); (case aO => exact (by (with_reducible repeat (first | apply Kd.R_alloc | apply Kd.R_drewN | apply Kd.R_drew)); exact HO_5.out)); (case aS => exact (below_size (by repeat (first | (with_reducible first | exact HB.out | apply below_alloc | apply pw_below_drewN | apply below_drew1) | exact HB.out)))); (case aL => have := LMc46.out; omega); intro v345 w49 ho hb hg hat; rw [← Ny344.out] at ho; have n0_ := Aside0.mk (Kd.V_afterv (ok := (fun k_ => ((P0_ k_ ∨ P1_ k_) ∨ w.heap.size ≤ k_))) (by (with_reducible repeat (first | apply Kd.V_alloc | apply Kd.V_drewN | apply Kd.V_drew)); exact HO_0.out) hg hat); have n1_ := Aside0.mk (Kd.V_afterv (ok := (fun k_ => ((P0_ k_ ∨ P1_ k_) ∨ w.heap.size ≤ k_))) (by (with_reducible repeat (first | apply Kd.V_alloc | apply Kd.V_drewN | apply Kd.V_drew)); exact HO_1.out) hg hat); have n2_ := Aside0.mk (hb); have n3_ := Aside0.mk (ho); clear HO_0; clear HO_1; clear HB; clear HO_5; have HO_0 := n0_; have HO_1 := n1_; have HB := n2_; have HO346 := n3_; clear n0_ n1_ n2_ n3_; clear ho hb hg hat; have q50 : (1 : Int) ≤ ((x1_1.length : Int) : Int) := of_decide_eq_true (by first | (with_reducible assumption) | assumption); obtain ⟨i050, hi050, _, hsz50, _⟩ := info_parts info37; have hroom50 : x1_1.length ≤ co48 := (Kd.V_reads' HO_1.out).2.1; have hC50 : Kd.F k37 _ _ (some ad343) x1_1.length x1_1 := (Kd.V_at (base := w.heap.size) HO_1.out).2.2; have hcut50 := cut_from (P := Try.prog) 40 37 .i64 Try.underlying40 hi050 2 hsz50 (some ad343) x1_1.length co48 1 (by omega) q50; have hr50 := Kd.F_cut (m := (1 : Int).toNat) (c := co48) hC50 (by omega) hroom50; obtain ⟨A50, hA50⟩ : ∃ A1, A1 = (if co48 = (1 : Int).toNat then (some ad343) else ((some ad343) : Option Addr).map (·.add ((1 : Int).toNat * 2))) := ⟨_, rfl⟩; obtain ⟨c50, hc50⟩ : ∃ c1, c1 = co48 - (1 : Int).toNat := ⟨_, rfl⟩; have hy50 : y347.length = x1_1.length - (1 : Int).toNat := (by rw [Ny347.out, List.length_drop] <;> omega); rw [show (x1_1).drop (1 : Int).toNat = y347 from Ny347.out.symm] at hr50; replace hr50 : Kd.F k37 _ _ A50 y347.length y347 := (by rw [hA50]; exact hr50); rw [← hy50, ← hA50, ← hc50] at hcut50; have HO351 := Aside0.mk (show Kd.V k37 37 _ w.heap.size _ (.slice A50 y347.length c50) y347 from Kd.V_mk (by rw [hy50, hc50]; exact Nat.sub_le_sub_right hroom50 _) hr50); have HC351 := Aside0.mk (show y347.length ≤ c50 from by rw [hy50, hc50]; exact Nat.sub_le_sub_right hroom50 _); clear hr50 hC50 hroom50 hi050 hsz50 hc50; have KY50 := Aside0.mk hy50; have KA50 := Aside0.mk hA50; clear hy50 hA50; replace q50 := eq_true q50)))
                        go_roundg kj8
                        case measure => have := HK1.out; have := HJ2.out; have := HJ8.out; omega
                        case rel => exact ⟨(x0_1), (y347), (y344), H', ⟨by have := HK1.out; have := HJ2.out; have := HJ8.out; omega⟩, ⟨by (with_reducible repeat (first | apply Kd.V_alloc | apply Kd.V_drewN | apply Kd.V_drew)); exact HO_0.out⟩, ⟨by (with_reducible repeat (first | apply Kd.V_alloc | apply Kd.V_drewN | apply Kd.V_drew)); exact HO351.out⟩, ⟨by (with_reducible repeat (first | apply Kd.R_alloc | apply Kd.R_drewN | apply Kd.R_drew)); exact HO346.out⟩, ⟨by repeat (first | (with_reducible first | exact HB.out | apply below_alloc | apply pw_below_drewN | apply below_drew1) | exact HB.out)⟩⟩
                      · rw [if_neg c47] at H
                        exact absurd H (by simp)
                    · rw [if_neg c46] at H
                      exact absurd H (by simp)
                  · rw [if_neg c45] at H
                    exact absurd H (by simp)
          · replace c8 := Bool.eq_false_iff.mpr c8
            subst c8
            have H1 : (some x5_1) = some r := by rw [if_neg (show ¬ (false = true) by decide)] at H; exact H
            clear H
            have H := H1
            clear H1
            obtain rfl := Option.some.inj H
            go_wp2
            repeat (go_quiet (fail); try go_wp2)
            go_ret
            exact ⟨_, by first | rfl | (simp [errW_none, errW_some] <;> rfl) | (simp [*, errW_none, errW_some] <;> rfl), by (with_reducible repeat (first | apply Kd.R_alloc | apply Kd.R_drewN | apply Kd.R_drew)); exact HO_5.out, by repeat (first | (with_reducible first | exact HB.out | apply below_alloc | apply pw_below_drewN | apply below_drew1) | exact HB.out)⟩

end Go.Proofs.Ytjapdjkckhcelaa.Pr
