/- Functions of the given program as plain Lean functions, and that the machine's calls come to them; written by a program of this session; no condition but those that each theorem states. -/
import Derived.Test.YthgeohdpjedhnaaPrx0
import Derived.Test.YthgeohdpjedhnaaPrxg5570bn1
namespace Go.Proofs.Ythgeohdpjedhnaa.Pr
open Go.RowKit Go.Proofs.YthgeohdpjedhnaaW.PrintWords Go.Proofs.YthgeohdpjedhnaaW.PrintLast Go.Proofs.YthgeohdpjedhnaaW.PrintMore
attribute [local go_sem] max2_int min2_int max_two min_two max_three min_three max_four min_four   -- for this text's walks alone
set_option linter.unusedVariables false
set_option linter.unusedSimpArgs false

/-! ### spec_l2Cmp: function 93 -/
mutual
def spec_l2Cmp.l0 : Nat → List (S86) → List (S86) → Int → Option (Int)
  | 0, _, _, _ => none
  | k + 1, x0, x1, x5 => if x5 < (x0.length : Int) then (spec_l2Cmp.j1 k x0 x1 x5 (decide (x5 < (x1.length : Int)))) else (spec_l2Cmp.j1 k x0 x1 x5 false)
def spec_l2Cmp.j1 : Nat → List (S86) → List (S86) → Int → Bool → Option (Int)
  | 0, _, _, _, _ => none
  | k + 1, x0, x1, x5, x17 => if x17 = true then (if 0 ≤ x5 then (if x5 < (x0.length : Int) then (if x5 < (x1.length : Int) then ((spec_l2CmpText.f k ((rd_T86 x0 x5).f0) ((rd_T86 x1 x5).f0)).bind fun t514 => (if t514 = 0 then ((spec_l2CmpText.f k ((rd_T86 x0 x5).f1) ((rd_T86 x1 x5).f1)).bind fun t517 => (if t517 = 0 then (spec_l2Cmp.l0 k x0 x1 (wrap64 (x5 + 1))) else (some t517))) else (some t514))) else (none)) else (none)) else (none)) else ((spec_l2CmpNum.f (x0.length : Int) (x1.length : Int)).bind fun t511 => (some t511))
end
def spec_l2Cmp.f (k : Nat) (l0 : List (S86)) (l1 : List (S86)) : Option (Int) := spec_l2Cmp.l0 k l0 l1 0
theorem spec_l2Cmp.mono_l : ∀ k, (∀ y0 y1 y2, LeO (spec_l2Cmp.l0 k y0 y1 y2) (spec_l2Cmp.l0 (k + 1) y0 y1 y2)) ∧ (∀ y0 y1 y2 y3, LeO (spec_l2Cmp.j1 k y0 y1 y2 y3) (spec_l2Cmp.j1 (k + 1) y0 y1 y2 y3))
  | 0 => ⟨fun _ _ _ r h => by simp [spec_l2Cmp.l0] at h, fun _ _ _ _ r h => by simp [spec_l2Cmp.j1] at h⟩
  | k + 1 => by
    obtain ⟨ih0, ih1⟩ := spec_l2Cmp.mono_l k
    refine ⟨?_, ?_⟩
    · intro y0 y1 y2
      unfold spec_l2Cmp.l0
      repeat' first
      | (with_reducible exact ih0 _ _ _)
      | (with_reducible exact ih1 _ _ _ _)
      | (with_reducible exact spec_l2CmpText.mono _ _ _)
      | (with_reducible exact LeO.refl _)
      | (with_reducible exact LeO.none _)
      | (with_reducible refine LeO.ite ?_ ?_)
      | (with_reducible refine LeO.bind ?_ (fun _ => ?_))
      | exact ih0 _ _ _
      | exact ih1 _ _ _ _
      | exact spec_l2CmpText.mono _ _ _
      | exact LeO.none _
      | refine LeO.ite ?_ ?_
      | refine LeO.bind ?_ (fun _ => ?_)
    · intro y0 y1 y2 y3
      unfold spec_l2Cmp.j1
      repeat' first
      | (with_reducible exact ih0 _ _ _)
      | (with_reducible exact ih1 _ _ _ _)
      | (with_reducible exact spec_l2CmpText.mono _ _ _)
      | (with_reducible exact LeO.refl _)
      | (with_reducible exact LeO.none _)
      | (with_reducible refine LeO.ite ?_ ?_)
      | (with_reducible refine LeO.bind ?_ (fun _ => ?_))
      | exact ih0 _ _ _
      | exact ih1 _ _ _ _
      | exact spec_l2CmpText.mono _ _ _
      | exact LeO.none _
      | refine LeO.ite ?_ ?_
      | refine LeO.bind ?_ (fun _ => ?_)
theorem spec_l2Cmp.mono : ∀ a0 a1 k, LeO (spec_l2Cmp.f k a0 a1) (spec_l2Cmp.f (k + 1) a0 a1) := by
  intro a0 a1 k
  obtain ⟨ih0, ih1⟩ := spec_l2Cmp.mono_l k
  unfold spec_l2Cmp.f
  repeat' first
      | (with_reducible exact ih0 _ _ _)
      | (with_reducible exact ih1 _ _ _ _)
      | (with_reducible exact spec_l2CmpText.mono _ _ _)
      | (with_reducible exact LeO.refl _)
      | (with_reducible exact LeO.none _)
      | (with_reducible refine LeO.ite ?_ ?_)
      | (with_reducible refine LeO.bind ?_ (fun _ => ?_))
      | exact ih0 _ _ _
      | exact ih1 _ _ _ _
      | exact spec_l2CmpText.mono _ _ _
      | exact LeO.none _
      | refine LeO.ite ?_ ?_
      | refine LeO.bind ?_ (fun _ => ?_)
set_option maxHeartbeats 8000000 in
set_option maxRecDepth 100000 in
theorem spec_l2Cmp.calls (k : Nat) (A0 : Option Addr) (c0 : Nat) (l0 : List (S86)) (A1 : Option Addr) (c1 : Nat) (l1 : List (S86)) (r : Int) (w : World) (hr0 : Kd.C k86 w A0 l0.length l0) (hc0 : l0.length ≤ c0) (hr1 : Kd.C k86 w A1 l1.length l1) (hc1 : l1.length ≤ c1) (h : spec_l2Cmp.f k l0 l1 = some r) :
    Calls Try.prog 93 #[.slice A0 l0.length c0, .slice A1 l1.length c1] w fun e w' => e = .returned (.int .i64 r) ∧ Drawn0 w w' := by
  have HR0 := Aside0.mk hr0
  have HC0 := Aside0.mk hc0
  clear hr0 hc0
  have HR1 := Aside0.mk hr1
  have HC1 := Aside0.mk hc1
  clear hr1 hc1
  have H : (spec_l2Cmp.l0 k l0 l1 0) = some r := h
  clear h
  have H' := Aside0.mk H
  clear H
  go_enter Try.func93, Try.ntmps93
  go_wp2
  repeat (go_quiet (fail); try go_wp2)
  go_loopg [5] k (fun kq v5 w' => ∃ (x5_1 : Int), v5 = .int .i64 x5_1 ∧ Aside0 (spec_l2Cmp.l0 kq l0 l1 x5_1 = some r) ∧ Aside0 (kq ≤ k) ∧ Drawn0 w w')
  case atStart => exact ⟨(0), (by first | rfl | (simp; done) | (simp [*]; done)), H', ⟨Nat.le_refl _⟩, by repeat (first | exact Drawn0.refl _ | apply Drawn0.step)⟩
  case round =>
    clear H'
    try clear c1
    try clear p2
    obtain ⟨x5_1, rfl, HA, HK1, ⟨m1, rfl⟩⟩ := hrel
    cases gk with
    | zero => exact absurd HA.out (by simp [spec_l2Cmp.l0])
    | succ k1 =>
      have H := HA.out
      clear HA
      simp only [spec_l2Cmp.l0] at H
      have HC3 := Aside0.mk H
      clear H
      go_upto_region 2 with (fail)
      repeat (go_quiet (fail); go_upto_region 2 with (fail))
      go_cut [17] (fun v17 wc => ∃ (kq : Nat) (x17_2 : Bool), v17 = .bool x17_2 ∧ Aside0 (spec_l2Cmp.j1 kq l0 l1 x5_1 x17_2 = some r) ∧ Aside0 (kq ≤ k1) ∧ Drawn0 w wc)
      case first =>
        have H := HC3.out
        clear HC3
        by_cases c4 : x5_1 < (l0.length : Int)
        · rw [if_pos c4] at H
          have c4b0 : decide (x5_1 < (l0.length : Int)) = true := decide_eq_true c4
          clear c4
          (first | rw [c4b0] | (simp only [i64_w, i32_w]; rw [c4b0]) | skip)
          have H' := Aside0.mk H
          clear H
          go_wp2
          repeat (go_quiet (fail); try go_wp2)
          go_meet
          case rel => exact ⟨_, (decide (x5_1 < (l1.length : Int))), (by first | rfl | (simp; done) | (simp [*]; done)), H', ⟨by have := HK1.out; first | omega | exact Nat.le_refl _⟩, by repeat (first | exact Drawn0.refl _ | apply Drawn0.step)⟩
        · rw [if_neg c4] at H
          have c4b0 : decide (x5_1 < (l0.length : Int)) = false := decide_eq_false c4
          clear c4
          (first | rw [c4b0] | (simp only [i64_w, i32_w]; rw [c4b0]) | skip)
          have H' := Aside0.mk H
          clear H
          go_wp2
          repeat (go_quiet (fail); try go_wp2)
          go_meet
          case rel => exact ⟨_, (false), (by first | rfl | (simp; done) | (simp [*]; done)), H', ⟨by have := HK1.out; first | omega | exact Nat.le_refl _⟩, by repeat (first | exact Drawn0.refl _ | apply Drawn0.step)⟩
      case rest =>
        clear HC3
        try clear c1
        try clear p2
        try clear c4
        try clear c4b0
        try clear p2
        obtain ⟨kq, x17_2, rfl, HA, HJ2, ⟨mc2, rfl⟩⟩ := hcut
        cases kq with
        | zero => exact absurd HA.out (by simp [spec_l2Cmp.j1])
        | succ kj2 =>
          have H := HA.out
          clear HA
          simp only [spec_l2Cmp.j1] at H
          by_cases c5 : x17_2 = true
          · subst c5
            have H1 : (if 0 ≤ x5_1 then (if x5_1 < (l0.length : Int) then (if x5_1 < (l1.length : Int) then ((spec_l2CmpText.f kj2 ((rd_T86 l0 x5_1).f0) ((rd_T86 l1 x5_1).f0)).bind fun t514 => (if t514 = 0 then ((spec_l2CmpText.f kj2 ((rd_T86 l0 x5_1).f1) ((rd_T86 l1 x5_1).f1)).bind fun t517 => (if t517 = 0 then (spec_l2Cmp.l0 kj2 l0 l1 (wrap64 (x5_1 + 1))) else (some t517))) else (some t514))) else (none)) else (none)) else (none)) = some r := by rw [if_pos rfl] at H; exact H
            clear H
            have H := H1
            clear H1
            by_cases c6 : 0 ≤ x5_1
            · rw [if_pos c6] at H
              have c6b0 : decide (0 ≤ x5_1) = true := decide_eq_true c6
              clear c6
              by_cases c7 : x5_1 < (l0.length : Int)
              · rw [if_pos c7] at H
                have c7b0 : decide (x5_1 < (l0.length : Int)) = true := decide_eq_true c7
                clear c7
                by_cases c8 : x5_1 < (l1.length : Int)
                · rw [if_pos c8] at H
                  have c8b0 : decide (x5_1 < (l1.length : Int)) = true := decide_eq_true c8
                  clear c8
                  replace H := Option.bind_eq_some_iff.mp H
                  obtain ⟨t514, A90, H⟩ := H
                  replace H : (if t514 = 0 then ((spec_l2CmpText.f kj2 ((rd_T86 l0 x5_1).f1) ((rd_T86 l1 x5_1).f1)).bind fun t517 => (if t517 = 0 then (spec_l2Cmp.l0 kj2 l0 l1 (wrap64 (x5_1 + 1))) else (some t517))) else (some t514)) = some r := H
                  have A9 := Aside0.mk A90
                  clear A90
                  by_cases c10 : t514 = 0
                  · rw [if_pos c10] at H
                    have c10b0 : (t514 == 0) = true := beq_iff_eq.mpr c10
                    have c10b1 : (t514 != 0) = false := bne_eq_false_iff_eq.mpr c10
                    clear c10
                    replace H := Option.bind_eq_some_iff.mp H
                    obtain ⟨t517, A110, H⟩ := H
                    replace H : (if t517 = 0 then (spec_l2Cmp.l0 kj2 l0 l1 (wrap64 (x5_1 + 1))) else (some t517)) = some r := H
                    have A11 := Aside0.mk A110
                    clear A110
                    by_cases c12 : t517 = 0
                    · rw [if_pos c12] at H
                      have c12b0 : (t517 == 0) = true := beq_iff_eq.mpr c12
                      have c12b1 : (t517 != 0) = false := bne_eq_false_iff_eq.mpr c12
                      clear c12
                      have H' := Aside0.mk H
                      clear H
                      have p512 : 0 ≤ (x5_1 : Int) := of_decide_eq_true (by first | (with_reducible assumption) | assumption)
                      have q512 : x5_1 < (l0.length : Int) := of_decide_eq_true (by first | (with_reducible assumption) | assumption)
                      obtain ⟨ad512, e512, hx512_0, hx512_1⟩ := at_T86 HR0.out x5_1 p512 q512
                      cases e512
                      replace p512 := eq_true p512
                      replace q512 := eq_true q512
                      have p513 : 0 ≤ (x5_1 : Int) := of_decide_eq_true (by first | (with_reducible assumption) | assumption)
                      have q513 : x5_1 < (l1.length : Int) := of_decide_eq_true (by first | (with_reducible assumption) | assumption)
                      obtain ⟨ad513, e513, hx513_0, hx513_1⟩ := at_T86 HR1.out x5_1 p513 q513
                      cases e513
                      replace p513 := eq_true p513
                      replace q513 := eq_true q513
                      go_wp2_with (first | (go_at_call 115; (with_reducible refine (spec_l2CmpText.calls kj2 ((rd_T86 l0 x5_1).f0) ((rd_T86 l1 x5_1).f0) t514 _ A9.out).mono ?_); rintro e w' ⟨rfl, ⟨nd, rfl⟩⟩; (try first | exact ⟨rfl, _, World.drewN_drewN _ _ _⟩ | exact ⟨rfl, _, Eq.trans (World.drewN_drewN _ _ _) (congrArg (World.drewN _) (Nat.add_assoc _ _ _))⟩); have p515 : 0 ≤ (x5_1 : Int) := of_decide_eq_true (by first | (with_reducible assumption) | assumption); have q515 : x5_1 < (l0.length : Int) := of_decide_eq_true (by first | (with_reducible assumption) | assumption); obtain ⟨ad515, e515, hx515_0, hx515_1⟩ := at_T86 HR0.out x5_1 p515 q515; obtain rfl : ad512 = ad515 := (by injection e515); replace p515 := eq_true p515; replace q515 := eq_true q515; have p516 : 0 ≤ (x5_1 : Int) := of_decide_eq_true (by first | (with_reducible assumption) | assumption); have q516 : x5_1 < (l1.length : Int) := of_decide_eq_true (by first | (with_reducible assumption) | assumption); obtain ⟨ad516, e516, hx516_0, hx516_1⟩ := at_T86 HR1.out x5_1 p516 q516; obtain rfl : ad513 = ad516 := (by injection e516); replace p516 := eq_true p516; replace q516 := eq_true q516) | (go_at_call 115; (with_reducible refine (spec_l2CmpText.calls kj2 ((rd_T86 l0 x5_1).f1) ((rd_T86 l1 x5_1).f1) t517 _ A11.out).mono ?_); rintro e w' ⟨rfl, ⟨nd, rfl⟩⟩; (try first | exact ⟨rfl, _, World.drewN_drewN _ _ _⟩ | exact ⟨rfl, _, Eq.trans (World.drewN_drewN _ _ _) (congrArg (World.drewN _) (Nat.add_assoc _ _ _))⟩)))
                      repeat (go_quiet (first | (go_at_call 115; (with_reducible refine (spec_l2CmpText.calls kj2 ((rd_T86 l0 x5_1).f0) ((rd_T86 l1 x5_1).f0) t514 _ A9.out).mono ?_); rintro e w' ⟨rfl, ⟨nd, rfl⟩⟩; (try first | exact ⟨rfl, _, World.drewN_drewN _ _ _⟩ | exact ⟨rfl, _, Eq.trans (World.drewN_drewN _ _ _) (congrArg (World.drewN _) (Nat.add_assoc _ _ _))⟩); have p515 : 0 ≤ (x5_1 : Int) := of_decide_eq_true (by first | (with_reducible assumption) | assumption); have q515 : x5_1 < (l0.length : Int) := of_decide_eq_true (by first | (with_reducible assumption) | assumption); obtain ⟨ad515, e515, hx515_0, hx515_1⟩ := at_T86 HR0.out x5_1 p515 q515; obtain rfl : ad512 = ad515 := (by injection e515); replace p515 := eq_true p515; replace q515 := eq_true q515; have p516 : 0 ≤ (x5_1 : Int) := of_decide_eq_true (by first | (with_reducible assumption) | assumption); have q516 : x5_1 < (l1.length : Int) := of_decide_eq_true (by first | (with_reducible assumption) | assumption); obtain ⟨ad516, e516, hx516_0, hx516_1⟩ := at_T86 HR1.out x5_1 p516 q516; obtain rfl : ad513 = ad516 := (by injection e516); replace p516 := eq_true p516; replace q516 := eq_true q516) | (go_at_call 115; (with_reducible refine (spec_l2CmpText.calls kj2 ((rd_T86 l0 x5_1).f1) ((rd_T86 l1 x5_1).f1) t517 _ A11.out).mono ?_); rintro e w' ⟨rfl, ⟨nd, rfl⟩⟩; (try first | exact ⟨rfl, _, World.drewN_drewN _ _ _⟩ | exact ⟨rfl, _, Eq.trans (World.drewN_drewN _ _ _) (congrArg (World.drewN _) (Nat.add_assoc _ _ _))⟩))); try go_wp2_with (first | (go_at_call 115; (with_reducible refine (spec_l2CmpText.calls kj2 ((rd_T86 l0 x5_1).f0) ((rd_T86 l1 x5_1).f0) t514 _ A9.out).mono ?_); rintro e w' ⟨rfl, ⟨nd, rfl⟩⟩; (try first | exact ⟨rfl, _, World.drewN_drewN _ _ _⟩ | exact ⟨rfl, _, Eq.trans (World.drewN_drewN _ _ _) (congrArg (World.drewN _) (Nat.add_assoc _ _ _))⟩); have p515 : 0 ≤ (x5_1 : Int) := of_decide_eq_true (by first | (with_reducible assumption) | assumption); have q515 : x5_1 < (l0.length : Int) := of_decide_eq_true (by first | (with_reducible assumption) | assumption); obtain ⟨ad515, e515, hx515_0, hx515_1⟩ := at_T86 HR0.out x5_1 p515 q515; obtain rfl : ad512 = ad515 := (by injection e515); replace p515 := eq_true p515; replace q515 := eq_true q515; have p516 : 0 ≤ (x5_1 : Int) := of_decide_eq_true (by first | (with_reducible assumption) | assumption); have q516 : x5_1 < (l1.length : Int) := of_decide_eq_true (by first | (with_reducible assumption) | assumption); obtain ⟨ad516, e516, hx516_0, hx516_1⟩ := at_T86 HR1.out x5_1 p516 q516; obtain rfl : ad513 = ad516 := (by injection e516); replace p516 := eq_true p516; replace q516 := eq_true q516) | (go_at_call 115; (with_reducible refine (spec_l2CmpText.calls kj2 ((rd_T86 l0 x5_1).f1) ((rd_T86 l1 x5_1).f1) t517 _ A11.out).mono ?_); rintro e w' ⟨rfl, ⟨nd, rfl⟩⟩; (try first | exact ⟨rfl, _, World.drewN_drewN _ _ _⟩ | exact ⟨rfl, _, Eq.trans (World.drewN_drewN _ _ _) (congrArg (World.drewN _) (Nat.add_assoc _ _ _))⟩))))
                      go_roundg kj2
                      case measure => have := HK1.out; have := HJ2.out; omega
                      case rel => exact ⟨(wrap64 (x5_1 + 1)), (by first | rfl | (simp; done) | (simp [*]; done)), H', ⟨by have := HK1.out; have := HJ2.out; omega⟩, by repeat (first | exact Drawn0.refl _ | apply Drawn0.step)⟩
                    · rw [if_neg c12] at H
                      have c12b0 : (t517 == 0) = false := beq_eq_false_iff_ne.mpr c12
                      have c12b1 : (t517 != 0) = true := bne_iff_ne.mpr c12
                      obtain rfl := Option.some.inj H
                      have p512 : 0 ≤ (x5_1 : Int) := of_decide_eq_true (by first | (with_reducible assumption) | assumption)
                      have q512 : x5_1 < (l0.length : Int) := of_decide_eq_true (by first | (with_reducible assumption) | assumption)
                      obtain ⟨ad512, e512, hx512_0, hx512_1⟩ := at_T86 HR0.out x5_1 p512 q512
                      cases e512
                      replace p512 := eq_true p512
                      replace q512 := eq_true q512
                      have p513 : 0 ≤ (x5_1 : Int) := of_decide_eq_true (by first | (with_reducible assumption) | assumption)
                      have q513 : x5_1 < (l1.length : Int) := of_decide_eq_true (by first | (with_reducible assumption) | assumption)
                      obtain ⟨ad513, e513, hx513_0, hx513_1⟩ := at_T86 HR1.out x5_1 p513 q513
                      cases e513
                      replace p513 := eq_true p513
                      replace q513 := eq_true q513
                      go_wp2_with (first | (go_at_call 115; (with_reducible refine (spec_l2CmpText.calls kj2 ((rd_T86 l0 x5_1).f0) ((rd_T86 l1 x5_1).f0) t514 _ A9.out).mono ?_); rintro e w' ⟨rfl, ⟨nd, rfl⟩⟩; (try first | exact ⟨rfl, _, World.drewN_drewN _ _ _⟩ | exact ⟨rfl, _, Eq.trans (World.drewN_drewN _ _ _) (congrArg (World.drewN _) (Nat.add_assoc _ _ _))⟩); have p515 : 0 ≤ (x5_1 : Int) := of_decide_eq_true (by first | (with_reducible assumption) | assumption); have q515 : x5_1 < (l0.length : Int) := of_decide_eq_true (by first | (with_reducible assumption) | assumption); obtain ⟨ad515, e515, hx515_0, hx515_1⟩ := at_T86 HR0.out x5_1 p515 q515; obtain rfl : ad512 = ad515 := (by injection e515); replace p515 := eq_true p515; replace q515 := eq_true q515; have p516 : 0 ≤ (x5_1 : Int) := of_decide_eq_true (by first | (with_reducible assumption) | assumption); have q516 : x5_1 < (l1.length : Int) := of_decide_eq_true (by first | (with_reducible assumption) | assumption); obtain ⟨ad516, e516, hx516_0, hx516_1⟩ := at_T86 HR1.out x5_1 p516 q516; obtain rfl : ad513 = ad516 := (by injection e516); replace p516 := eq_true p516; replace q516 := eq_true q516) | (go_at_call 115; (with_reducible refine (spec_l2CmpText.calls kj2 ((rd_T86 l0 x5_1).f1) ((rd_T86 l1 x5_1).f1) t517 _ A11.out).mono ?_); rintro e w' ⟨rfl, ⟨nd, rfl⟩⟩; (try first | exact ⟨rfl, _, World.drewN_drewN _ _ _⟩ | exact ⟨rfl, _, Eq.trans (World.drewN_drewN _ _ _) (congrArg (World.drewN _) (Nat.add_assoc _ _ _))⟩)))
                      repeat (go_quiet (first | (go_at_call 115; (with_reducible refine (spec_l2CmpText.calls kj2 ((rd_T86 l0 x5_1).f0) ((rd_T86 l1 x5_1).f0) t514 _ A9.out).mono ?_); rintro e w' ⟨rfl, ⟨nd, rfl⟩⟩; (try first | exact ⟨rfl, _, World.drewN_drewN _ _ _⟩ | exact ⟨rfl, _, Eq.trans (World.drewN_drewN _ _ _) (congrArg (World.drewN _) (Nat.add_assoc _ _ _))⟩); have p515 : 0 ≤ (x5_1 : Int) := of_decide_eq_true (by first | (with_reducible assumption) | assumption); have q515 : x5_1 < (l0.length : Int) := of_decide_eq_true (by first | (with_reducible assumption) | assumption); obtain ⟨ad515, e515, hx515_0, hx515_1⟩ := at_T86 HR0.out x5_1 p515 q515; obtain rfl : ad512 = ad515 := (by injection e515); replace p515 := eq_true p515; replace q515 := eq_true q515; have p516 : 0 ≤ (x5_1 : Int) := of_decide_eq_true (by first | (with_reducible assumption) | assumption); have q516 : x5_1 < (l1.length : Int) := of_decide_eq_true (by first | (with_reducible assumption) | assumption); obtain ⟨ad516, e516, hx516_0, hx516_1⟩ := at_T86 HR1.out x5_1 p516 q516; obtain rfl : ad513 = ad516 := (by injection e516); replace p516 := eq_true p516; replace q516 := eq_true q516) | (go_at_call 115; (with_reducible refine (spec_l2CmpText.calls kj2 ((rd_T86 l0 x5_1).f1) ((rd_T86 l1 x5_1).f1) t517 _ A11.out).mono ?_); rintro e w' ⟨rfl, ⟨nd, rfl⟩⟩; (try first | exact ⟨rfl, _, World.drewN_drewN _ _ _⟩ | exact ⟨rfl, _, Eq.trans (World.drewN_drewN _ _ _) (congrArg (World.drewN _) (Nat.add_assoc _ _ _))⟩))); try go_wp2_with (first | (go_at_call 115; (with_reducible refine (spec_l2CmpText.calls kj2 ((rd_T86 l0 x5_1).f0) ((rd_T86 l1 x5_1).f0) t514 _ A9.out).mono ?_); rintro e w' ⟨rfl, ⟨nd, rfl⟩⟩; (try first | exact ⟨rfl, _, World.drewN_drewN _ _ _⟩ | exact ⟨rfl, _, Eq.trans (World.drewN_drewN _ _ _) (congrArg (World.drewN _) (Nat.add_assoc _ _ _))⟩); have p515 : 0 ≤ (x5_1 : Int) := of_decide_eq_true (by first | (with_reducible assumption) | assumption); have q515 : x5_1 < (l0.length : Int) := of_decide_eq_true (by first | (with_reducible assumption) | assumption); obtain ⟨ad515, e515, hx515_0, hx515_1⟩ := at_T86 HR0.out x5_1 p515 q515; obtain rfl : ad512 = ad515 := (by injection e515); replace p515 := eq_true p515; replace q515 := eq_true q515; have p516 : 0 ≤ (x5_1 : Int) := of_decide_eq_true (by first | (with_reducible assumption) | assumption); have q516 : x5_1 < (l1.length : Int) := of_decide_eq_true (by first | (with_reducible assumption) | assumption); obtain ⟨ad516, e516, hx516_0, hx516_1⟩ := at_T86 HR1.out x5_1 p516 q516; obtain rfl : ad513 = ad516 := (by injection e516); replace p516 := eq_true p516; replace q516 := eq_true q516) | (go_at_call 115; (with_reducible refine (spec_l2CmpText.calls kj2 ((rd_T86 l0 x5_1).f1) ((rd_T86 l1 x5_1).f1) t517 _ A11.out).mono ?_); rintro e w' ⟨rfl, ⟨nd, rfl⟩⟩; (try first | exact ⟨rfl, _, World.drewN_drewN _ _ _⟩ | exact ⟨rfl, _, Eq.trans (World.drewN_drewN _ _ _) (congrArg (World.drewN _) (Nat.add_assoc _ _ _))⟩))))
                      go_ret
                      exact ⟨by first | rfl | (simp; done) | (simp [*]; done), by repeat (first | exact Drawn0.refl _ | apply Drawn0.step)⟩
                  · rw [if_neg c10] at H
                    have c10b0 : (t514 == 0) = false := beq_eq_false_iff_ne.mpr c10
                    have c10b1 : (t514 != 0) = true := bne_iff_ne.mpr c10
                    obtain rfl := Option.some.inj H
                    have p512 : 0 ≤ (x5_1 : Int) := of_decide_eq_true (by first | (with_reducible assumption) | assumption)
                    have q512 : x5_1 < (l0.length : Int) := of_decide_eq_true (by first | (with_reducible assumption) | assumption)
                    obtain ⟨ad512, e512, hx512_0, hx512_1⟩ := at_T86 HR0.out x5_1 p512 q512
                    cases e512
                    replace p512 := eq_true p512
                    replace q512 := eq_true q512
                    have p513 : 0 ≤ (x5_1 : Int) := of_decide_eq_true (by first | (with_reducible assumption) | assumption)
                    have q513 : x5_1 < (l1.length : Int) := of_decide_eq_true (by first | (with_reducible assumption) | assumption)
                    obtain ⟨ad513, e513, hx513_0, hx513_1⟩ := at_T86 HR1.out x5_1 p513 q513
                    cases e513
                    replace p513 := eq_true p513
                    replace q513 := eq_true q513
                    go_wp2_with (first | (go_at_call 115; (with_reducible refine (spec_l2CmpText.calls kj2 ((rd_T86 l0 x5_1).f0) ((rd_T86 l1 x5_1).f0) t514 _ A9.out).mono ?_); rintro e w' ⟨rfl, ⟨nd, rfl⟩⟩; (try first | exact ⟨rfl, _, World.drewN_drewN _ _ _⟩ | exact ⟨rfl, _, Eq.trans (World.drewN_drewN _ _ _) (congrArg (World.drewN _) (Nat.add_assoc _ _ _))⟩)))
                    repeat (go_quiet (first | (go_at_call 115; (with_reducible refine (spec_l2CmpText.calls kj2 ((rd_T86 l0 x5_1).f0) ((rd_T86 l1 x5_1).f0) t514 _ A9.out).mono ?_); rintro e w' ⟨rfl, ⟨nd, rfl⟩⟩; (try first | exact ⟨rfl, _, World.drewN_drewN _ _ _⟩ | exact ⟨rfl, _, Eq.trans (World.drewN_drewN _ _ _) (congrArg (World.drewN _) (Nat.add_assoc _ _ _))⟩))); try go_wp2_with (first | (go_at_call 115; (with_reducible refine (spec_l2CmpText.calls kj2 ((rd_T86 l0 x5_1).f0) ((rd_T86 l1 x5_1).f0) t514 _ A9.out).mono ?_); rintro e w' ⟨rfl, ⟨nd, rfl⟩⟩; (try first | exact ⟨rfl, _, World.drewN_drewN _ _ _⟩ | exact ⟨rfl, _, Eq.trans (World.drewN_drewN _ _ _) (congrArg (World.drewN _) (Nat.add_assoc _ _ _))⟩))))
                    go_ret
                    exact ⟨by first | rfl | (simp; done) | (simp [*]; done), by repeat (first | exact Drawn0.refl _ | apply Drawn0.step)⟩
                · rw [if_neg c8] at H
                  exact absurd H (by simp)
              · rw [if_neg c7] at H
                exact absurd H (by simp)
            · rw [if_neg c6] at H
              exact absurd H (by simp)
          · replace c5 := Bool.eq_false_iff.mpr c5
            subst c5
            have H1 : ((spec_l2CmpNum.f (l0.length : Int) (l1.length : Int)).bind fun t511 => (some t511)) = some r := by rw [if_neg (show ¬ (false = true) by decide)] at H; exact H
            clear H
            have H := H1
            clear H1
            replace H := Option.bind_eq_some_iff.mp H
            obtain ⟨t511, A130, H⟩ := H
            replace H : (some t511) = some r := H
            have A13 := Aside0.mk A130
            clear A130
            obtain rfl := Option.some.inj H
            go_wp2_with (first | (go_at_call 133; (with_reducible refine (spec_l2CmpNum.calls (l0.length : Int) (l1.length : Int) t511 _ A13.out).mono ?_); rintro e w' ⟨rfl, ⟨nd, rfl⟩⟩; (try first | exact ⟨rfl, _, World.drewN_drewN _ _ _⟩ | exact ⟨rfl, _, Eq.trans (World.drewN_drewN _ _ _) (congrArg (World.drewN _) (Nat.add_assoc _ _ _))⟩)))
            repeat (go_quiet (first | (go_at_call 133; (with_reducible refine (spec_l2CmpNum.calls (l0.length : Int) (l1.length : Int) t511 _ A13.out).mono ?_); rintro e w' ⟨rfl, ⟨nd, rfl⟩⟩; (try first | exact ⟨rfl, _, World.drewN_drewN _ _ _⟩ | exact ⟨rfl, _, Eq.trans (World.drewN_drewN _ _ _) (congrArg (World.drewN _) (Nat.add_assoc _ _ _))⟩))); try go_wp2_with (first | (go_at_call 133; (with_reducible refine (spec_l2CmpNum.calls (l0.length : Int) (l1.length : Int) t511 _ A13.out).mono ?_); rintro e w' ⟨rfl, ⟨nd, rfl⟩⟩; (try first | exact ⟨rfl, _, World.drewN_drewN _ _ _⟩ | exact ⟨rfl, _, Eq.trans (World.drewN_drewN _ _ _) (congrArg (World.drewN _) (Nat.add_assoc _ _ _))⟩))))
            go_ret
            exact ⟨by first | rfl | (simp; done) | (simp [*]; done), by repeat (first | exact Drawn0.refl _ | apply Drawn0.step)⟩

end Go.Proofs.Ythgeohdpjedhnaa.Pr
