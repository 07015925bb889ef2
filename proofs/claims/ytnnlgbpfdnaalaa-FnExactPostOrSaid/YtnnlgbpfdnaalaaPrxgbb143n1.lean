/- Functions of the given program as plain Lean functions, and that the machine's calls come to them; written by a program of this session; no condition but those that each theorem states. -/
import Derived.Test.YtnnlgbpfdnaalaaShelf
import Derived.Test.YtnnlgbpfdnaalaaPrx0
namespace Go.Proofs.Ytnnlgbpfdnaalaa.Pr
open Go.RowKit Go.Proofs.YtnnlgbpfdnaalaaW.PrintWords Go.Proofs.YtnnlgbpfdnaalaaW.PrintLast Go.Proofs.YtnnlgbpfdnaalaaW.PrintMore
attribute [local go_sem] max2_int min2_int max_two min_two max_three min_three max_four min_four   -- for this text's walks alone
set_option linter.unusedVariables false
set_option linter.unusedSimpArgs false

/-! ### spec_l9Numbers: function 102 -/
def spec_l9Numbers.l0 : Nat → List Int → Int → Int → Option (Bool)
 | 0, _, _, _ => none
 | k + 1, x0, x5, x6 => if x6 < x5 then (if x6 > 0 then (if 0 ≤ (wrap64 (x6 - 1)) then (if (wrap64 (x6 - 1)) < (x0.length : Int) then (if 0 ≤ x6 then (if x6 < (x0.length : Int) then (if (rd x0 (wrap64 (x6 - 1))) ≥ (rd x0 x6) then (some false) else (spec_l9Numbers.l0 k x0 x5 (wrap64 (x6 + 1)))) else (none)) else (none)) else (none)) else (none)) else (spec_l9Numbers.l0 k x0 x5 (wrap64 (x6 + 1)))) else (some (decide ((x0.length : Int) ≤ 1000)))
def spec_l9Numbers.f (k : Nat) (l0 : List Int) : Option (Bool) := spec_l9Numbers.l0 k l0 (l0.length : Int) 0
theorem spec_l9Numbers.mono_l : ∀ k, (∀ y0 y1 y2, LeO (spec_l9Numbers.l0 k y0 y1 y2) (spec_l9Numbers.l0 (k + 1) y0 y1 y2))
 | 0 => fun _ _ _ r h => by simp [spec_l9Numbers.l0] at h
 | k + 1 => by
  have ih0 := spec_l9Numbers.mono_l k
  ·intro y0 y1 y2
   unfold spec_l9Numbers.l0
   repeat' first
   | with_reducible first | exact ih0 _ _ _ | exact LeO.refl _ | exact LeO.none _ | refine LeO.ite ?_ ?_ | refine LeO.bind ?_ (fun _ => ?_)
   | exact ih0 _ _ _
   | exact LeO.none _
   | refine LeO.ite ?_ ?_
   | refine LeO.bind ?_ (fun _ => ?_)
theorem spec_l9Numbers.mono : ∀ a0 k, LeO (spec_l9Numbers.f k a0) (spec_l9Numbers.f (k + 1) a0) := by
 intro a0 k
 have ih0 := spec_l9Numbers.mono_l k
 unfold spec_l9Numbers.f
 repeat' first
   | with_reducible first | exact ih0 _ _ _ | exact LeO.refl _ | exact LeO.none _ | refine LeO.ite ?_ ?_ | refine LeO.bind ?_ (fun _ => ?_)
   | exact ih0 _ _ _
   | exact LeO.none _
   | refine LeO.ite ?_ ?_
   | refine LeO.bind ?_ (fun _ => ?_)
set_option maxHeartbeats 8000000 in
set_option maxRecDepth 100000 in
theorem spec_l9Numbers.calls (k : Nat) (A0 : Option Addr) (c0 : Nat) (l0 : List Int) (r : Bool) (w : World) (hr0 : Kd.C (Kd.int .i64) w A0 l0.length l0) (hc0 : l0.length ≤ c0) (h : spec_l9Numbers.f k l0 = some r) :
  Calls Try.prog 102 #[.slice A0 l0.length c0] w fun e w' => e = .returned (.bool r) ∧ Drawn0 w w' := by
 have HR0 := am_ hr0
 have HC0 := am_ hc0
 clear hr0 hc0
 have H : (spec_l9Numbers.l0 k l0 (l0.length : Int) 0) = some r := h
 clear h
 have H' := am_ H
 clear H
 go_enter Try.func102, Try.ntmps102
 go_wp2
 repeat (go_quiet (fail); try go_wp2)
 go_loopg [6] k (fun kq v6 w' => ∃ (x6_1 : Int), v6 = .int .i64 x6_1 ∧ Aside0 (spec_l9Numbers.l0 kq l0 (l0.length : Int) x6_1 = some r) ∧ Aside0 (kq ≤ k) ∧ Drawn0 w w')
 case atStart => exact ⟨(0), rs_, H', ⟨Nat.le_refl _⟩, by repeat (first | exact Drawn0.refl _ | apply Drawn0.step)⟩
 case round =>
  clear H'
  try clear c1
  obtain ⟨x6_1, rfl, HA, HK1, ⟨m1, rfl⟩⟩ := hrel
  cases gk with
  | zero => exact absurd HA.out (by simp [spec_l9Numbers.l0])
  | succ k1 =>
   have H := HA.out
   clear HA
   simp only [spec_l9Numbers.l0] at H
   by_cases c2 : x6_1 < (l0.length : Int)
   ·rw [if_pos c2] at H
    have c2b0 : decide (x6_1 < (l0.length : Int)) = true := decide_eq_true c2
    clear c2
    by_cases c3 : x6_1 > 0
    ·rw [if_pos c3] at H
     have c3b0 : decide (0 < x6_1) = true := decide_eq_true c3
     clear c3
     obtain ⟨ji4, hji4⟩ : ∃ j_ : Int, (wrap64 (x6_1 - 1)) = j_ := ⟨_, rfl⟩
     replace H : (if 0 ≤ (ji4) then (if (ji4) < (l0.length : Int) then (if 0 ≤ x6_1 then (if x6_1 < (l0.length : Int) then (if (rd l0 (ji4)) ≥ (rd l0 x6_1) then (some false) else (spec_l9Numbers.l0 k1 l0 (l0.length : Int) (wrap64 (x6_1 + 1)))) else (none)) else (none)) else (none)) else (none)) = some r := by first | (rw [hji4] at H; exact H) | (simp only [hji4] at H ⊢; exact H)
     have hji4w : (IntKind.i64.wrap (x6_1 - 1)) = ji4 := (i64_w _).trans hji4
     by_cases c5 : 0 ≤ (ji4)
     ·rw [if_pos c5] at H
      have c5b0 : decide (0 ≤ (ji4)) = true := decide_eq_true c5
      clear c5
      by_cases c6 : (ji4) < (l0.length : Int)
      ·rw [if_pos c6] at H
       have c6b0 : decide ((ji4) < (l0.length : Int)) = true := decide_eq_true c6
       clear c6
       by_cases c7 : 0 ≤ x6_1
       ·rw [if_pos c7] at H
        have c7b0 : decide (0 ≤ x6_1) = true := decide_eq_true c7
        clear c7
        by_cases c8 : x6_1 < (l0.length : Int)
        ·rw [if_pos c8] at H
         have c8b0 : decide (x6_1 < (l0.length : Int)) = true := decide_eq_true c8
         clear c8
         by_cases c9 : (rd l0 (ji4)) ≥ (rd l0 x6_1)
         ·rw [if_pos c9] at H
          have c9b0 : decide ((rd l0 x6_1) ≤ (rd l0 (ji4))) = true := decide_eq_true c9
          clear c9
          obtain rfl := Option.some.inj H
          have p1001 : 0 ≤ ((ji4) : Int) := od_
          have q1001 : (ji4) < (l0.length : Int) := od_
          obtain ⟨ad1001, e1001, hx1001_0⟩ := Kd.at_int HR0.out (ji4) p1001 q1001
          cases e1001
          replace p1001 := eq_true p1001
          replace q1001 := eq_true q1001
          have p1002 : 0 ≤ (x6_1 : Int) := od_
          have q1002 : x6_1 < (l0.length : Int) := od_
          obtain ⟨ad1002, e1002, hx1002_0⟩ := Kd.at_int HR0.out x6_1 p1002 q1002
          obtain rfl : ad1001 = ad1002 := (by injection e1002)
          replace p1002 := eq_true p1002
          replace q1002 := eq_true q1002
          go_wp2
          repeat (go_quiet (fail); try go_wp2)
          go_ret
          exact ⟨by first | rfl | (simp; done) | (simp only [← hji4] <;> (first | rfl | simp)) | (simp [*]; done), by repeat (first | exact Drawn0.refl _ | apply Drawn0.step)⟩
         ·rw [if_neg c9] at H
          have c9b0 : decide ((rd l0 x6_1) ≤ (rd l0 (ji4))) = false := decide_eq_false c9
          clear c9
          have H' := am_ H
          clear H
          have p1001 : 0 ≤ ((ji4) : Int) := od_
          have q1001 : (ji4) < (l0.length : Int) := od_
          obtain ⟨ad1001, e1001, hx1001_0⟩ := Kd.at_int HR0.out (ji4) p1001 q1001
          cases e1001
          replace p1001 := eq_true p1001
          replace q1001 := eq_true q1001
          have p1002 : 0 ≤ (x6_1 : Int) := od_
          have q1002 : x6_1 < (l0.length : Int) := od_
          obtain ⟨ad1002, e1002, hx1002_0⟩ := Kd.at_int HR0.out x6_1 p1002 q1002
          obtain rfl : ad1001 = ad1002 := (by injection e1002)
          replace p1002 := eq_true p1002
          replace q1002 := eq_true q1002
          go_wp2
          repeat (go_quiet (fail); try go_wp2)
          go_roundg k1
          case measure => have := HK1.out; omega
          case rel => exact ⟨(wrap64 (x6_1 + 1)), rs_, H', ⟨by have := HK1.out; omega⟩, by repeat (first | exact Drawn0.refl _ | apply Drawn0.step)⟩
        ·rw [if_neg c8] at H
         exact absurd H (by simp)
       ·rw [if_neg c7] at H
        exact absurd H (by simp)
      ·rw [if_neg c6] at H
       exact absurd H (by simp)
     ·rw [if_neg c5] at H
      exact absurd H (by simp)
    ·rw [if_neg c3] at H
     have c3b0 : decide (0 < x6_1) = false := decide_eq_false c3
     clear c3
     have H' := am_ H
     clear H
     go_wp2
     repeat (go_quiet (fail); try go_wp2)
     go_roundg k1
     case measure => have := HK1.out; omega
     case rel => exact ⟨(wrap64 (x6_1 + 1)), rs_, H', ⟨by have := HK1.out; omega⟩, by repeat (first | exact Drawn0.refl _ | apply Drawn0.step)⟩
   ·rw [if_neg c2] at H
    have c2b0 : decide (x6_1 < (l0.length : Int)) = false := decide_eq_false c2
    clear c2
    obtain rfl := Option.some.inj H
    go_wp2
    repeat (go_quiet (fail); try go_wp2)
    go_ret
    exact ⟨by first | rfl | (simp; done) | (simp [*]; done), by repeat (first | exact Drawn0.refl _ | apply Drawn0.step)⟩

/-! ### laws_toIntS: function 47 -/
def laws_toIntS.l0 : Nat → List Int → List Int → Int → Option (List Int)
 | 0, _, _, _ => none
 | k + 1, x0, x3, x4 => if x4 < (x0.length : Int) then (if 0 ≤ x4 then (if x4 < (x3.length : Int) then (laws_toIntS.l0 k x0 (x3.set (x4 : Int).toNat (rd x0 x4)) (wrap64 (x4 + 1))) else (none)) else (none)) else (some x3)
def laws_toIntS.f (k : Nat) (l0 : List Int) : Option (List Int) := if 0 ≤ (l0.length : Int) then (if ((l0.length : Int) : Int).toNat ≤ 35184372088832 then (laws_toIntS.l0 k l0 (List.replicate ((l0.length : Int) : Int).toNat 0) 0) else (none)) else (none)
theorem laws_toIntS.mono_l : ∀ k, (∀ y0 y1 y2, LeO (laws_toIntS.l0 k y0 y1 y2) (laws_toIntS.l0 (k + 1) y0 y1 y2))
 | 0 => fun _ _ _ r h => by simp [laws_toIntS.l0] at h
 | k + 1 => by
  have ih0 := laws_toIntS.mono_l k
  ·intro y0 y1 y2
   unfold laws_toIntS.l0
   repeat' first
   | with_reducible first | exact ih0 _ _ _ | exact LeO.refl _ | exact LeO.none _ | refine LeO.ite ?_ ?_ | refine LeO.bind ?_ (fun _ => ?_)
   | exact ih0 _ _ _
   | exact LeO.none _
   | refine LeO.ite ?_ ?_
   | refine LeO.bind ?_ (fun _ => ?_)
theorem laws_toIntS.mono : ∀ a0 k, LeO (laws_toIntS.f k a0) (laws_toIntS.f (k + 1) a0) := by
 intro a0 k
 have ih0 := laws_toIntS.mono_l k
 unfold laws_toIntS.f
 repeat' first
   | with_reducible first | exact ih0 _ _ _ | exact LeO.refl _ | exact LeO.none _ | refine LeO.ite ?_ ?_ | refine LeO.bind ?_ (fun _ => ?_)
   | exact ih0 _ _ _
   | exact LeO.none _
   | refine LeO.ite ?_ ?_
   | refine LeO.bind ?_ (fun _ => ?_)
set_option maxHeartbeats 8000000 in
set_option maxRecDepth 100000 in
theorem laws_toIntS.calls (k : Nat) (A0 : Option Addr) (c0 : Nat) (l0 : List Int) (r : List Int) (w : World) (hr0 : Kd.C (Kd.int .i64) w A0 l0.length l0) (hc0 : l0.length ≤ c0) (h : laws_toIntS.f k l0 = some r) :
  Calls Try.prog 47 #[.slice A0 l0.length c0] w fun e w' => ∃ v0_ : Value, e = .returned (v0_) ∧ Kd.R (Kd.int .i64) 3 w' w.heap.size (fun _ => True) v0_ r ∧ Below w.heap.size w w' := by
 have HR0 := am_ hr0
 have HC0 := am_ hc0
 clear hr0 hc0
 have HB := am_ (Below.refl w.heap.size w)
 have H : (if 0 ≤ (l0.length : Int) then (if ((l0.length : Int) : Int).toNat ≤ 35184372088832 then (laws_toIntS.l0 k l0 (List.replicate ((l0.length : Int) : Int).toNat 0) 0) else (none)) else (none)) = some r := h
 clear h
 by_cases c2 : 0 ≤ (l0.length : Int)
 ·rw [if_pos c2] at H
  have c2b0 := eq_true c2
  have c2b1 : decide (0 ≤ (l0.length : Int)) = true := decide_eq_true c2
  clear c2
  by_cases c3 : ((l0.length : Int) : Int).toNat ≤ 35184372088832
  ·rw [if_pos c3] at H
   have c3b0 := eq_true c3
   have c3b1 : decide (((l0.length : Int) : Int).toNat ≤ 35184372088832) = true := decide_eq_true c3
   clear c3
   obtain ⟨y1001, hy1001⟩ : ∃ y_ : List Int, y_ = (List.replicate ((l0.length : Int) : Int).toNat 0) := ⟨_, rfl⟩
   replace H : (laws_toIntS.l0 k l0 y1001 0) = some r := by first | (rw [hy1001]; with_reducible exact H) | (have H2_ := (Option.bind_some _ _).symm.trans H; rw [hy1001]; with_reducible exact H2_) | (have H2_ := (Option.bind_some _ _).symm.trans H; with_reducible exact H2_) | with_reducible exact H | (rw [hy1001]; exact H) | exact H
   have Ny1001 := am_ hy1001
   clear hy1001
   have H' := am_ H
   clear H
   go_enter Try.func47, Try.ntmps47
   go_wp2_with (first | ((with_reducible refine gate_dst (N := 7) rfl ?_); refine Kd.R_make (Kd.int .i64) _ 3 rfl (N := 7) rfl 64 _ _ rfl (l0.length : Int) rfl rfl Try.underlying64 (.int .i64 0) 8 info3 rfl (by decide) (by omega) 0 (ok := fun _ => True) (okp := fun _ => True) rfl (fun _ hk => hk) trivial (od_) (Nat.le_trans (Nat.mul_le_mul_right _ (od_ : (l0.length : Int).toNat ≤ 35184372088832)) (by omega)) (Below.refl _ _) (Nat.le_refl _) ?_; intro v1002 w4 ho5 hb hg_ hnew_; clear hg_ hnew_; (first | rw [← Ny1001.out] at ho5 | (simp only [Int.reduceToNat] at ho5; rw [← Ny1001.out] at ho5)); have n0_ := am_ (Kd.R_lower ho5 (below_size bl_)); have n1_ := am_ (below_step bl_ hb); clear HB; have HO1003 := n0_; have HB := n1_; clear n0_ n1_; clear hb ho5))
   go_loopg [4] k (fun kq v4 w' => ∃ (x3_1 : List Int) (x4_1 : Int), v4 = .int .i64 x4_1 ∧ Aside0 (laws_toIntS.l0 kq l0 x3_1 x4_1 = some r) ∧ Aside0 (kq ≤ k) ∧ Aside0 (Kd.R (Kd.int .i64) 3 w' w.heap.size (fun _ => True) v1002 x3_1) ∧ Aside0 (Below w.heap.size w w'))
   case atStart => exact ⟨(y1001), (0), rs_, H', ⟨Nat.le_refl _⟩, ⟨ro_ HO1003⟩, ⟨bl_⟩⟩
   case round =>
    clear H'
    try clear c2
    try clear c2b0
    try clear c2b1
    try clear p2
    try clear c3
    try clear c3b0
    try clear c3b1
    try clear c4
    obtain ⟨x3_1, x4_1, rfl, HA, HK1, HO_3, HB⟩ := hrel
    cases gk with
    | zero => exact absurd HA.out (by simp [laws_toIntS.l0])
    | succ k1 =>
     have H := HA.out
     clear HA
     simp only [laws_toIntS.l0] at H
     by_cases c6 : x4_1 < (l0.length : Int)
     ·rw [if_pos c6] at H
      have c6b0 : decide (x4_1 < (l0.length : Int)) = true := decide_eq_true c6
      clear c6
      by_cases c7 : 0 ≤ x4_1
      ·rw [if_pos c7] at H
       have c7b0 : decide (0 ≤ x4_1) = true := decide_eq_true c7
       clear c7
       by_cases c8 : x4_1 < (x3_1.length : Int)
       ·rw [if_pos c8] at H
        have c8b0 : decide (x4_1 < (x3_1.length : Int)) = true := decide_eq_true c8
        clear c8
        obtain ⟨y1005, hy1005⟩ : ∃ y_ : List Int, y_ = (x3_1.set (x4_1 : Int).toNat (rd l0 x4_1)) := ⟨_, rfl⟩
        replace H : (laws_toIntS.l0 k1 l0 y1005 (wrap64 (x4_1 + 1))) = some r := by first | (rw [hy1005]; with_reducible exact H) | (have H2_ := (Option.bind_some _ _).symm.trans H; rw [hy1005]; with_reducible exact H2_) | (have H2_ := (Option.bind_some _ _).symm.trans H; with_reducible exact H2_) | with_reducible exact H | (rw [hy1005]; exact H) | exact H
        have Ny1005 := am_ hy1005
        clear hy1005
        have H' := am_ H
        clear H
        have p1004 : 0 ≤ (x4_1 : Int) := od_
        have q1004 : x4_1 < (l0.length : Int) := od_
        obtain ⟨ad1004, e1004, hx1004_0⟩ := Kd.at_int HR0.out x4_1 p1004 q1004
        cases e1004
        replace hx1004_0 := kp_ HB hx1004_0
        replace p1004 := eq_true p1004
        replace q1004 := eq_true q1004
        have p9 : 0 ≤ (x4_1 : Int) := od_
        have q9 : (x4_1 : Int) < ((x3_1.length : Int) : Int) := od_
        obtain ⟨go9, co9, eo9, gb9, gl9, cl9, HG9⟩ := Kd.R_form HO_3.out (by omega)
        (first | cases eo9 | (injection eo9 with ea_ en_ ec_; (first | subst ea_ | (injection ea_ with ea_; subst ea_)); subst ec_; clear en_))
        have GB9 := am_ gb9
        have GG9 := am_ HG9
        clear gb9 gl9 HG9
        obtain ⟨hx9_0, hf9_0⟩ := Kd.R_celln 0 HO_3.out (x4_1 : Int) p9 q9
        replace p9 := eq_true p9
        replace q9 := eq_true q9
        have HP10 := Kd.R_putg HO_3.out (x4_1 : Int) (rd l0 x4_1)
        go_wp2_with (first | ((with_reducible refine gate_store (t := 3) (p := 20) rfl ?_); refine store_event (t := 3) (p := 20) (v := ?vo_w11) (w1 := (wr.setCell ⟨go9, (x4_1 : Int).toNat, none⟩ (.int .i64 (rd l0 x4_1)))) ?hg ?ho ?hn ?hr ?_; (case ho => rfl); (case hg => rfl); (case hn => rfl); (case hr => first | (go_simp; done) | (go_simp; rfl) | ((try (obtain ⟨_, _, e_⟩ := Kd.R_slice HO1003.out; subst e_)); go_simp; first | done | rfl)); intro w11 hw; have hg : wr.grownBy w11 (some go9) := (by rw [hw]; exact HP10.2); have hp_ : Kd.R (Kd.int .i64) 3 w11 w.heap.size (fun _ => True) (.slice (some ⟨go9, 0, none⟩) x3_1.length co9) y1005 := (by rw [hw, Ny1005.out]; exact HP10.1); clear HP10; have n0_ := am_ (hp_); have n1_ := am_ ((by rw [hw]; exact below_set (HB.out) GB9.out : Below w.heap.size w w11)); clear HO_3; clear HB; have HO_3 := n0_; have HB := n1_; clear n0_ n1_; clear hg hw hp_))
        go_roundg k1
        case measure => have := HK1.out; omega
        case rel => exact ⟨(y1005), (wrap64 (x4_1 + 1)), rs_, H', ⟨by have := HK1.out; omega⟩, ⟨ro_ HO_3⟩, ⟨bl_⟩⟩
       ·rw [if_neg c8] at H
        exact absurd H (by simp)
      ·rw [if_neg c7] at H
       exact absurd H (by simp)
     ·rw [if_neg c6] at H
      have c6b0 : decide (x4_1 < (l0.length : Int)) = false := decide_eq_false c6
      clear c6
      obtain rfl := Option.some.inj H
      go_wp2
      go_ret
      exact ⟨_, rf_, by (with_reducible repeat (first | apply Kd.R_alloc | apply Kd.R_drewN | apply Kd.R_drew)); exact HO_3.out, bl_⟩
  ·rw [if_neg c3] at H
   exact absurd H (by simp)
 ·rw [if_neg c2] at H
  exact absurd H (by simp)

/-! ### impl_rising_int: function 133 -/
def impl_rising_int.l0 : Nat → List Int → Int → Option (Bool)
 | 0, _, _ => none
 | k + 1, x0, x3 => if x3 < (x0.length : Int) then (if 0 ≤ (wrap64 (x3 - 1)) then (if (wrap64 (x3 - 1)) < (x0.length : Int) then (if 0 ≤ x3 then (if (rd x0 (wrap64 (x3 - 1))) ≥ (rd x0 x3) then (some false) else (impl_rising_int.l0 k x0 (wrap64 (x3 + 1)))) else (none)) else (none)) else (none)) else (some true)
def impl_rising_int.f (k : Nat) (l0 : List Int) : Option (Bool) := impl_rising_int.l0 k l0 1
theorem impl_rising_int.mono_l : ∀ k, (∀ y0 y1, LeO (impl_rising_int.l0 k y0 y1) (impl_rising_int.l0 (k + 1) y0 y1))
 | 0 => fun _ _ r h => by simp [impl_rising_int.l0] at h
 | k + 1 => by
  have ih0 := impl_rising_int.mono_l k
  ·intro y0 y1
   unfold impl_rising_int.l0
   repeat' first
   | with_reducible first | exact ih0 _ _ | exact LeO.refl _ | exact LeO.none _ | refine LeO.ite ?_ ?_ | refine LeO.bind ?_ (fun _ => ?_)
   | exact ih0 _ _
   | exact LeO.none _
   | refine LeO.ite ?_ ?_
   | refine LeO.bind ?_ (fun _ => ?_)
theorem impl_rising_int.mono : ∀ a0 k, LeO (impl_rising_int.f k a0) (impl_rising_int.f (k + 1) a0) := by
 intro a0 k
 have ih0 := impl_rising_int.mono_l k
 unfold impl_rising_int.f
 repeat' first
   | with_reducible first | exact ih0 _ _ | exact LeO.refl _ | exact LeO.none _ | refine LeO.ite ?_ ?_ | refine LeO.bind ?_ (fun _ => ?_)
   | exact ih0 _ _
   | exact LeO.none _
   | refine LeO.ite ?_ ?_
   | refine LeO.bind ?_ (fun _ => ?_)
set_option maxHeartbeats 8000000 in
set_option maxRecDepth 100000 in
theorem impl_rising_int.calls (k : Nat) (A0 : Option Addr) (c0 : Nat) (l0 : List Int) (r : Bool) (w : World) (hr0 : Kd.C (Kd.int .i64) w A0 l0.length l0) (hc0 : l0.length ≤ c0) (h : impl_rising_int.f k l0 = some r) :
  Calls Try.prog 133 #[.slice A0 l0.length c0] w fun e w' => e = .returned (.bool r) ∧ Drawn0 w w' := by
 have HR0 := am_ hr0
 have HC0 := am_ hc0
 clear hr0 hc0
 have H : (impl_rising_int.l0 k l0 1) = some r := h
 clear h
 have H' := am_ H
 clear H
 go_enter Try.func133, Try.ntmps133
 go_wp2
 repeat (go_quiet (fail); try go_wp2)
 go_loopg [3] k (fun kq v3 w' => ∃ (x3_1 : Int), v3 = .int .i64 x3_1 ∧ Aside0 (impl_rising_int.l0 kq l0 x3_1 = some r) ∧ Aside0 (kq ≤ k) ∧ Drawn0 w w')
 case atStart => exact ⟨(1), rs_, H', ⟨Nat.le_refl _⟩, by repeat (first | exact Drawn0.refl _ | apply Drawn0.step)⟩
 case round =>
  clear H'
  try clear c1
  obtain ⟨x3_1, rfl, HA, HK1, ⟨m1, rfl⟩⟩ := hrel
  cases gk with
  | zero => exact absurd HA.out (by simp [impl_rising_int.l0])
  | succ k1 =>
   have H := HA.out
   clear HA
   simp only [impl_rising_int.l0] at H
   by_cases c2 : x3_1 < (l0.length : Int)
   ·rw [if_pos c2] at H
    have c2b0 : decide (x3_1 < (l0.length : Int)) = true := decide_eq_true c2
    clear c2
    obtain ⟨ji3, hji3⟩ : ∃ j_ : Int, (wrap64 (x3_1 - 1)) = j_ := ⟨_, rfl⟩
    replace H : (if 0 ≤ (ji3) then (if (ji3) < (l0.length : Int) then (if 0 ≤ x3_1 then (if (rd l0 (ji3)) ≥ (rd l0 x3_1) then (some false) else (impl_rising_int.l0 k1 l0 (wrap64 (x3_1 + 1)))) else (none)) else (none)) else (none)) = some r := by first | (rw [hji3] at H; exact H) | (simp only [hji3] at H ⊢; exact H)
    have hji3w : (IntKind.i64.wrap (x3_1 - 1)) = ji3 := (i64_w _).trans hji3
    by_cases c4 : 0 ≤ (ji3)
    ·rw [if_pos c4] at H
     have c4b0 : decide (0 ≤ (ji3)) = true := decide_eq_true c4
     clear c4
     by_cases c5 : (ji3) < (l0.length : Int)
     ·rw [if_pos c5] at H
      have c5b0 : decide ((ji3) < (l0.length : Int)) = true := decide_eq_true c5
      clear c5
      by_cases c6 : 0 ≤ x3_1
      ·rw [if_pos c6] at H
       have c6b0 : decide (0 ≤ x3_1) = true := decide_eq_true c6
       clear c6
       by_cases c7 : (rd l0 (ji3)) ≥ (rd l0 x3_1)
       ·rw [if_pos c7] at H
        have c7b0 : decide ((rd l0 x3_1) ≤ (rd l0 (ji3))) = true := decide_eq_true c7
        clear c7
        obtain rfl := Option.some.inj H
        have p1001 : 0 ≤ ((ji3) : Int) := od_
        have q1001 : (ji3) < (l0.length : Int) := od_
        obtain ⟨ad1001, e1001, hx1001_0⟩ := Kd.at_int HR0.out (ji3) p1001 q1001
        cases e1001
        replace p1001 := eq_true p1001
        replace q1001 := eq_true q1001
        have p1002 : 0 ≤ (x3_1 : Int) := od_
        have q1002 : x3_1 < (l0.length : Int) := od_
        obtain ⟨ad1002, e1002, hx1002_0⟩ := Kd.at_int HR0.out x3_1 p1002 q1002
        obtain rfl : ad1001 = ad1002 := (by injection e1002)
        replace p1002 := eq_true p1002
        replace q1002 := eq_true q1002
        go_wp2
        repeat (go_quiet (fail); try go_wp2)
        go_ret
        exact ⟨by first | rfl | (simp; done) | (simp only [← hji3] <;> (first | rfl | simp)) | (simp [*]; done), by repeat (first | exact Drawn0.refl _ | apply Drawn0.step)⟩
       ·rw [if_neg c7] at H
        have c7b0 : decide ((rd l0 x3_1) ≤ (rd l0 (ji3))) = false := decide_eq_false c7
        clear c7
        have H' := am_ H
        clear H
        have p1001 : 0 ≤ ((ji3) : Int) := od_
        have q1001 : (ji3) < (l0.length : Int) := od_
        obtain ⟨ad1001, e1001, hx1001_0⟩ := Kd.at_int HR0.out (ji3) p1001 q1001
        cases e1001
        replace p1001 := eq_true p1001
        replace q1001 := eq_true q1001
        have p1002 : 0 ≤ (x3_1 : Int) := od_
        have q1002 : x3_1 < (l0.length : Int) := od_
        obtain ⟨ad1002, e1002, hx1002_0⟩ := Kd.at_int HR0.out x3_1 p1002 q1002
        obtain rfl : ad1001 = ad1002 := (by injection e1002)
        replace p1002 := eq_true p1002
        replace q1002 := eq_true q1002
        go_wp2
        repeat (go_quiet (fail); try go_wp2)
        go_roundg k1
        case measure => have := HK1.out; omega
        case rel => exact ⟨(wrap64 (x3_1 + 1)), rs_, H', ⟨by have := HK1.out; omega⟩, by repeat (first | exact Drawn0.refl _ | apply Drawn0.step)⟩
      ·rw [if_neg c6] at H
       exact absurd H (by simp)
     ·rw [if_neg c5] at H
      exact absurd H (by simp)
    ·rw [if_neg c4] at H
     exact absurd H (by simp)
   ·rw [if_neg c2] at H
    have c2b0 : decide (x3_1 < (l0.length : Int)) = false := decide_eq_false c2
    clear c2
    obtain rfl := Option.some.inj H
    go_wp2
    repeat (go_quiet (fail); try go_wp2)
    go_ret
    exact ⟨by first | rfl | (simp; done) | (simp [*]; done), by repeat (first | exact Drawn0.refl _ | apply Drawn0.step)⟩

/-! ### slices_Clone_int_int: function 134 -/
def slices_Clone_int_int.f (l0 : List Int) : Option (List Int) := if l0.length ≤ 17592186043904 then some l0 else none
set_option maxHeartbeats 4000000 in
theorem slices_Clone_int_int.calls (A0 : Option Addr) (c0 : Nat) (l0 : List Int) (r : List Int) (w : World) (hr0 : Kd.C (Kd.int .i64) w A0 l0.length l0) (hc0 : l0.length ≤ c0) (h : slices_Clone_int_int.f l0 = some r) :
  Calls Try.prog 134 #[.slice A0 l0.length c0] w fun e w' => ∃ v0_ : Value, e = .returned (v0_) ∧ Kd.R (Kd.int .i64) 3 w' w.heap.size (fun _ => True) v0_ r ∧ Below w.heap.size w w' := by
 have HR0 := am_ hr0
 have HC0 := am_ hc0
 clear hr0 hc0
 have HB := am_ (Below.refl w.heap.size w)
 unfold slices_Clone_int_int.f at h
 split at h
 ·rename_i hlim
  obtain rfl := Option.some.inj h
  have HL := am_ hlim
  clear hlim
  cases A0 with
  | none =>
   have hl : l0 = [] := by
    rcases Nat.eq_zero_or_pos l0.length with h0 | h0
    ·exact List.eq_nil_of_length_eq_zero h0
    ·obtain ⟨ad, h1, _⟩ := HR0.out.2.2 h0
     cases h1
   subst hl
   have hnil : ∀ W : World, (binOp .eql 64 (.slice none 0 c0) (.slice none 0 0)).run Try.prog W = .ok (.bool true) W := fun W => Go.Lib.run_eql_slice_nil W 64 3 none 0 c0 0 0 Try.underlying64
   go_enter Try.func134, Try.ntmps134
   go_wp2
   go_ret
   exact ⟨_, rfl, Kd.R_nil _ _ _ _ _, HB.out⟩
  | some a =>
   have hnil : ∀ W : World, (binOp .eql 64 (.slice (some a) l0.length c0) (.slice none 0 0)).run Try.prog W = .ok (.bool false) W := fun W => Go.Lib.run_eql_slice_nil W 64 3 (some a) l0.length c0 0 0 Try.underlying64
   go_enter Try.func134, Try.ntmps134
   go_wp2_with (first | ((with_reducible refine gate_dst (N := 5) rfl ?_); refine Kd.R_lit (Kd.int .i64) _ 3 ?hg (N := 5) ?hd (xs := ([] : List Int)) (inner := []) (ok := fun _ => True) (okp := fun _ => True) ?hr ?hp (fun _ hk => hk) trivial (Below.refl _ _) (Nat.le_refl _) (by simp) ?_; (case hd => rfl); (case hg => rfl); (case hr => first | (go_simp; done) | (go_simp; rfl)); (case hp => exact Reps.none _ _); intro v5 w5 ho5 hb5 hg_ hnew_; have HO5 := am_ (Kd.R_lower ho5 (below_size bl_)); have n1_ := am_ (below_step bl_ hb5); clear HB; have HB := n1_; clear n1_ hb5 ho5 hg_ hnew_) | (at_builtin; refine Kd.R_append_rows (Kd.int .i64) (w0 := w) w.heap.size rfl (.tmp 5) (.tmp 6) 64 3 (.int .i64 0) 8 rfl Try.underlying64 info3 rfl (by decide) (by omega) v5 ([] : List Int) l0 (some a) _ _ (fun _ => True) (fun _ => False) rfl rfl ?aO ?aR (fun _ _ h => h) (fun _ h => h.elim) ?aF ?aB ?aS ?aL ?_; (case aR => exact Kd.C_below HR0.out HB.out); (case aB => exact bl_); (case aF => exact (fun _ _ => trivial)); (case aO => exact HO5.out); (case aS => exact (below_size bl_)); (case aL => have := HL.out; simp only [List.length_nil]; omega); intro v7 w7 ho hb hg hat; have HO7 := am_ ho; clear HB; have HB := am_ hb; clear ho hb hg hat))
   go_ret
   exact ⟨_, rfl, HO7.out, HB.out⟩
 ·cases h

/-! ### impl_filter_int: function 136 -/
def impl_filter_int.l0 (P : Int → Option Bool) (l0 : List Int) : Nat → List Int → Int → Option (List Int)
 | 0, _, _ => none
 | k + 1, x5, x10 => if x10 < (l0.length : Int) then (if 0 ≤ x10 then ((P (rd l0 x10)).bind fun b => (if b = true then (if x5.length < 17592186044415 then (impl_filter_int.l0 P l0 k (x5 ++ [rd l0 x10]) (wrap64 (x10 + 1))) else none) else (impl_filter_int.l0 P l0 k x5 (wrap64 (x10 + 1))))) else none) else some x5
def impl_filter_int.f (k : Nat) (P : Int → Option Bool) (l0 : List Int) : Option (List Int) := impl_filter_int.l0 P l0 k [] 0
theorem impl_filter_int.mono_l (P P' : Int → Option Bool) (hP : ∀ x, LeO (P x) (P' x)) (l0 : List Int) : ∀ k x5 x10, LeO (impl_filter_int.l0 P l0 k x5 x10) (impl_filter_int.l0 P' l0 (k + 1) x5 x10)
 | 0, _, _ => LeO.none _
 | k + 1, x5, x10 => by
  have ih := impl_filter_int.mono_l P P' hP l0 k
  unfold impl_filter_int.l0
  exact LeO.ite (LeO.ite (LeO.bind (hP _) (fun _ => LeO.ite (LeO.ite (ih _ _) (LeO.none _)) (ih _ _))) (LeO.none _)) (LeO.refl _)
theorem impl_filter_int.mono (P P' : Int → Option Bool) (hP : ∀ x, LeO (P x) (P' x)) (l0 : List Int) (k : Nat) : LeO (impl_filter_int.f k P l0) (impl_filter_int.f (k + 1) P' l0) := impl_filter_int.mono_l P P' hP l0 k _ _
set_option maxHeartbeats 8000000 in
set_option maxRecDepth 100000 in
theorem impl_filter_int.calls (k : Nat) (P : Int → Option Bool) (g : Nat) (lb : Array Value) (eg : ∀ args w, (callFunc g args).run Try.prog w = .ok (.enter g args) w) (A0 : Option Addr) (c0 : Nat) (l0 : List Int) (r : List Int) (w : World) (hr0 : Kd.C (Kd.int .i64) w A0 l0.length l0) (hc0 : l0.length ≤ c0)
  (hP : ∀ (W : World) (x : Int) (b : Bool), Below w.heap.size w W → P x = some b → Calls Try.prog g (#[.int .i64 x] ++ lb) W fun e w' => e = .returned (.bool b) ∧ Below W.heap.size W w') (h : impl_filter_int.f k P l0 = some r) :
  Calls Try.prog 136 #[.slice A0 l0.length c0, .func (.func g) #[] lb] w fun e w' => ∃ v0_ : Value, e = .returned (v0_) ∧ Kd.R (Kd.int .i64) 3 w' w.heap.size (fun _ => True) v0_ r ∧ Below w.heap.size w w' := by
 have HR0 := am_ hr0
 have HC0 := am_ hc0
 clear hr0 hc0
 have HB := am_ (Below.refl w.heap.size w)
 have hP' := am_ hP
 clear hP
 have H' := am_ (show impl_filter_int.l0 P l0 k [] 0 = some r from h)
 clear h
 go_enter Try.func136, Try.ntmps136
 go_wp2
 go_loopg [5, 10] k (fun kq v5 v10 w' => ∃ (x5_1 : List Int) (x10_1 : Int), v10 = .int .i64 x10_1 ∧ Aside0 (impl_filter_int.l0 P l0 kq x5_1 x10_1 = some r) ∧ Aside0 (Kd.R (Kd.int .i64) 3 w' w.heap.size (fun _ => True) v5 x5_1) ∧ Aside0 (Below w.heap.size w w'))
 case atStart => exact ⟨[], 0, rs_, H', ⟨ni_⟩, ⟨bl_⟩⟩
 case round =>
  clear H'
  obtain ⟨x5_1, x10_1, rfl, HA, HO_5, HB⟩ := hrel
  cases gk with
  | zero => exact absurd HA.out (by simp [impl_filter_int.l0])
  | succ k1 =>
   have H := HA.out
   clear HA
   simp only [impl_filter_int.l0] at H
   by_cases c4 : x10_1 < (l0.length : Int)
   ·rw [if_pos c4] at H
    have c4b0 : decide (x10_1 < (l0.length : Int)) = true := decide_eq_true c4
    by_cases c5 : 0 ≤ x10_1
    ·rw [if_pos c5] at H
     have c5b0 : decide (0 ≤ x10_1) = true := decide_eq_true c5
     obtain ⟨b, hb0, H⟩ := Option.bind_eq_some_iff.mp H
     have HP0 := am_ hb0
     clear hb0
     obtain ⟨ad, e_, hx_0⟩ := Kd.at_int HR0.out x10_1 c5 c4
     cases e_
     replace hx_0 := kp_ HB hx_0
     have p_ := eq_true c5
     have q_ := eq_true c4
     clear c4 c5
     have HC7 := am_ H
     clear H
     cases b with
     | true =>
      have H := HC7.out
      rw [if_pos rfl] at H
      by_cases c13 : x5_1.length < 17592186044415
      ·rw [if_pos c13] at H
       have LM := am_ c13
       clear c13
       obtain ⟨y, hy⟩ : ∃ y_ : List Int, y_ = x5_1 ++ [rd l0 x10_1] := ⟨_, rfl⟩
       rw [← hy] at H
       have Ny := am_ hy
       clear hy
       have H' := am_ H
       clear H
       go_wp2_with (first | (with_reducible refine Calls.mono (hP'.out wr (rd l0 x10_1) true HB.out HP0.out) ?_; rintro e w10 ⟨rfl, hb⟩; have n0_ := am_ (Kd.R_below HO_5.out hb); have n2_ := am_ (below_step HB.out hb); clear HO_5 HB; have HO_5 := n0_; have HB := n2_; clear n0_ n2_ hb) | ((with_reducible refine gate_builtin (b := .append) (xs := #[.tmp 17, .tmp 19]) rfl ?_); at_builtin; refine Kd.R_append (Kd.int .i64) (w0 := w) w.heap.size rfl (.tmp 17) (.tmp 19) 64 3 (.int .i64 0) 8 rfl Try.underlying64 info3 rfl (by decide) (by omega) u5 x5_1 (rd l0 x10_1) [.int .i64 (rd l0 x10_1)] (fun _ => True) (fun _ => False) rfl rfl ?aP (fun _ hk => hk.elim) ?aF ?aO ?aB ?aS ?aL ?_; (case aP => exact rfl); (case aB => exact bl_); (case aF => exact (fun _ _ => trivial)); (case aO => exact (ro_ HO_5)); (case aS => exact (below_size bl_)); (case aL => have := LM.out; omega); intro v20 w12 ho hb hg hat; rw [← Ny.out] at ho; have n1_ := am_ (hb); have n2_ := am_ (ho); clear HB; clear HO_5; have HB := n1_; have HO_5 := n2_; clear n1_ n2_; clear ho hb hg hat))
       go_roundg k1
       case measure => omega
       case rel => exact ⟨y, (wrap64 (x10_1 + 1)), rs_, H', ⟨ro_ HO_5⟩, ⟨bl_⟩⟩
      ·rw [if_neg c13] at H
       exact absurd H (by simp)
     | false =>
      have H' : Aside0 (impl_filter_int.l0 P l0 k1 x5_1 (wrap64 (x10_1 + 1)) = some r) := ⟨by have H := HC7.out; rw [if_neg (show ¬ (false = true) by decide)] at H; exact H⟩
      go_wp2_with (first | (with_reducible refine Calls.mono (hP'.out wr (rd l0 x10_1) false HB.out HP0.out) ?_; rintro e w10 ⟨rfl, hb⟩; have n0_ := am_ (Kd.R_below HO_5.out hb); have n2_ := am_ (below_step HB.out hb); clear HO_5 HB; have HO_5 := n0_; have HB := n2_; clear n0_ n2_ hb))
      go_roundg k1
      case measure => omega
      case rel => exact ⟨x5_1, (wrap64 (x10_1 + 1)), rs_, H', ⟨ro_ HO_5⟩, ⟨bl_⟩⟩
    ·rw [if_neg c5] at H
     exact absurd H (by simp)
   ·rw [if_neg c4] at H
    have c4b0 : decide (x10_1 < (l0.length : Int)) = false := decide_eq_false c4
    clear c4
    obtain rfl := Option.some.inj H
    go_wp2
    go_ret
    exact ⟨_, rf_, HO_5.out, bl_⟩

/-! ### impl_posts: function 104 -/
theorem impl_posts.plain {w : World} {A : Option Addr} {xs : List Int} (h : Kd.C (Kd.int .i64) w A xs.length xs) (hp : 0 < xs.length) : ∃ b off, A = some ⟨b, off, none⟩ ∧ ∀ j, j < xs.length → w.cell? ⟨b, off + j, none⟩ = some (.int .i64 (xs.getD j 0)) := by
 obtain ⟨ad, rfl, hc⟩ := (Kd.reads_of_C (d := (0 : Int)) h).2.2 hp
 obtain ⟨b, off, sp⟩ := ad
 have h0 := hc 0 hp
 cases sp with
 | none =>
  refine ⟨b, off, rfl, fun j hj => ?_⟩
  have := hc j hj
  unfold Addr.add at this
  by_cases hz : j = 0
  ·subst hz; simpa using this
  ·rw [if_neg hz] at this; exact this
 | some s =>
  exfalso
  simp only [Addr.add, if_true] at h0
  simp [World.cell?] at h0
  split at h0 <;> cases h0
theorem impl_posts.search (xs : List Int) (x : Int) (A : Option Addr) (c : Nat) (w : World) (h : Kd.C (Kd.int .i64) w A xs.length xs) (hl : xs.length ≤ 1000) (hs : xs.Pairwise (· ≤ ·)) :
  Calls Try.prog 139 #[.slice A xs.length c, .int .i64 x] w fun e w' => ∃ m : Int, e = .returned (.tuple #[.int .i64 m, .bool (decide (x ∈ xs))]) ∧ Below w.heap.size w w' := by
 rcases Nat.eq_zero_or_pos xs.length with h0 | h0
 ·obtain rfl := List.eq_nil_of_length_eq_zero h0
  refine (Try.slices_BinarySearch_int_empty A c x w).mono ?_
  rintro e w' ⟨rfl, rfl⟩
  exact ⟨0, by simp, Below.refl _ _⟩
 ·obtain ⟨b, off, rfl, hc⟩ := impl_posts.plain h h0
  refine (Try.slices_BinarySearch_int b off xs.length c xs x w (Nat.le_refl _) (by omega) hc (by rw [List.take_length]; exact hs)).mono ?_
  rintro e w' ⟨rfl, q, rfl⟩
  rw [List.take_length]
  exact ⟨((xs.countP (· < x) : Nat) : Int), by simp, pw_below_drewN (Below.refl _ _) q⟩
theorem impl_posts.below {w0 W W2 : World} {row : Option Nat} (hB : Below w0.heap.size w0 W) (hg : W.grownBy W2 row) (hr : ∀ k, row = some k → w0.heap.size ≤ k) : Below w0.heap.size w0 W2 :=
 ⟨hg.os.trans hB.os, hg.tape.trans hB.tape, hg.output.trans hB.output, Nat.le_trans hB.size hg.size, fun i hi => (hg.block i (Nat.lt_of_lt_of_le hi hB.size) (fun e_ => by have := hr i e_.symm; omega)).trans (hB.block i hi)⟩
theorem impl_posts.sort1 (xs : List Int) (g c : Nat) (base : Nat) (ok : Nat → Prop) (w0 w : World) (hB : Below w0.heap.size w0 w) (hb : w0.heap.size ≤ base) (h : Kd.R (Kd.int .i64) 3 w base ok (.slice (some ⟨g, 0, none⟩) xs.length c) xs) (hl : xs.length ≤ 2000) :
  Calls Try.prog 135 #[.slice (some ⟨g, 0, none⟩) xs.length c] w fun e w' => e = .returned (.tuple #[]) ∧ Kd.R (Kd.int .i64) 3 w' base ok (.slice (some ⟨g, 0, none⟩) xs.length c) (xs.mergeSort fun x y => decide (x ≤ y)) ∧ Below w0.heap.size w0 w' ∧ w.grownBy w' (some g) := by
 have ho := Kd.own_of_R h
 obtain ⟨g', c', e0, hge, hlt, h1, h2, _, hH⟩ := Go.Lib.holds_of_ownsRow ho (by simp)
 cases e0
 refine (Try.slices_Sort_int g 0 c xs w hH hlt (by omega)).mono ?_
 rintro e w' ⟨rfl, n, os, rfl⟩
 have hg : w.grownBy (Go.Sort.grow (Go.Sort.putRow (Value.int .i64) (Go.Sort.ahead w n) g 0 (xs.mergeSort fun x y => decide (x ≤ y)).toArray) os) (some g) := grownBy_sortedI _
 refine ⟨rfl, ?_, impl_posts.below hB hg (fun k e_ => by cases e_; exact Nat.le_trans hb hge), hg⟩
 ·rcases ho.2 with ⟨hn, _⟩ | ⟨g2, c2, cur, e2, _, hgb, _, _, hsz, _⟩
  ·cases hn
  ·cases e2
   have hlen : (xs.mergeSort fun x y => decide (x ≤ y)).length = xs.length := List.length_mergeSort _
   have := ownsRow_sortedI (n := n) (os := os) (base := base) hlen hge hgb h1 h2 hsz
   refine Kd.R_of_own ?_ h.1
   rw [hlen]
   exact this
theorem impl_posts.sort (xs : List Int) (v : Value) (base : Nat) (ok : Nat → Prop) (w0 w : World) (hB : Below w0.heap.size w0 w) (hb : w0.heap.size ≤ base) (h : Kd.R (Kd.int .i64) 3 w base ok v xs) (hl : xs.length ≤ 2000) :
  Calls Try.prog 135 #[v] w fun e w' => e = .returned (.tuple #[]) ∧ Kd.R (Kd.int .i64) 3 w' base ok v (xs.mergeSort fun x y => decide (x ≤ y)) ∧ Below w0.heap.size w0 w' ∧ w.grownBy w' v.ownBlock := by
 rcases Nat.eq_zero_or_pos xs.length with h0 | h0
 ·obtain rfl := List.eq_nil_of_length_eq_zero h0
  obtain ⟨A, c, rfl⟩ := Kd.R_slice h
  refine (Try.slices_Sort_int_none A c w).mono ?_
  rintro e w' ⟨rfl, rfl⟩
  exact ⟨rfl, by rw [List.mergeSort_nil]; exact h, hB, grown_of_below (Below.refl _ _) _⟩
 ·obtain ⟨g, c, rfl, _⟩ := Kd.R_form h h0
  exact impl_posts.sort1 xs g c base ok w0 w hB hb h hl
theorem impl_posts.compact1 (xs : List Int) (g c : Nat) (base : Nat) (ok : Nat → Prop) (w0 w : World) (hB : Below w0.heap.size w0 w) (hb : w0.heap.size ≤ base) (h : Kd.R (Kd.int .i64) 3 w base ok (.slice (some ⟨g, 0, none⟩) xs.length c) xs) (hl : xs.length ≤ 2000) :
  Calls Try.prog 137 #[.slice (some ⟨g, 0, none⟩) xs.length c] w fun e w' => e = .returned (.slice (some ⟨g, 0, none⟩) (Go.Lib.compact xs).length c) ∧ Kd.R (Kd.int .i64) 3 w' base ok (.slice (some ⟨g, 0, none⟩) (Go.Lib.compact xs).length c) (Go.Lib.compact xs) ∧ Below w0.heap.size w0 w' ∧ w.grownBy w' (some g) := by
 have ho := Kd.own_of_R h
 obtain ⟨g', c', e0, hge, hlt, h1, h2, _, hH⟩ := Go.Lib.holds_of_ownsRow ho (by simp)
 cases e0
 refine (Try.slices_Compact_int g 0 c xs w hH (by omega) h1).mono ?_
 rintro e w' ⟨rfl, q, rfl⟩
 have hk := Go.Lib.compact_length_le xs
 have hg : w.grownBy (Go.Sort.putRow (Value.int .i64) (Go.Sort.ahead w q) g 0 (Go.Lib.compact xs ++ List.replicate (xs.length - (Go.Lib.compact xs).length) 0).toArray) (some g) := by
  have := grownBy_sortedI (w := w) (g := g) (n := q) (os := #[]) (Go.Lib.compact xs ++ List.replicate (xs.length - (Go.Lib.compact xs).length) 0).toArray
  rwa [Go.Sort.grow_empty] at this
 refine ⟨rfl, ?_, impl_posts.below hB hg (fun k e_ => by cases e_; exact Nat.le_trans hb hge), hg⟩
 have := Go.Lib.ownsRow_putRow (q := q) (k := (Go.Lib.compact xs).length) (ys := Go.Lib.compact xs ++ List.replicate (xs.length - (Go.Lib.compact xs).length) 0) ho (by rw [List.length_append, List.length_replicate]; omega) hk
 rw [List.take_left] at this
 exact Kd.R_of_own this h.1
theorem impl_posts.compact (xs : List Int) (v : Value) (base : Nat) (ok : Nat → Prop) (w0 w : World) (hB : Below w0.heap.size w0 w) (hb : w0.heap.size ≤ base) (h : Kd.R (Kd.int .i64) 3 w base ok v xs) (hl : xs.length ≤ 2000) :
  Calls Try.prog 137 #[v] w fun e w' => ∃ v1, e = .returned v1 ∧ Kd.R (Kd.int .i64) 3 w' base ok v1 (Go.Lib.compact xs) ∧ Below w0.heap.size w0 w' ∧ w.grownBy w' v.ownBlock := by
 rcases Nat.eq_zero_or_pos xs.length with h0 | h0
 ·obtain rfl := List.eq_nil_of_length_eq_zero h0
  obtain ⟨A, c, rfl⟩ := Kd.R_slice h
  refine (Try.slices_Compact_int_empty A c w).mono ?_
  rintro e w' ⟨rfl, rfl⟩
  exact ⟨_, rfl, h, hB, grown_of_below (Below.refl _ _) _⟩
 ·obtain ⟨g, c, rfl, _⟩ := Kd.R_form h h0
  refine (impl_posts.compact1 xs g c base ok w0 w hB hb h hl).mono ?_
  rintro e w' ⟨rfl, h1, h2, h3⟩
  exact ⟨_, rfl, h1, h2, h3⟩
set_option maxHeartbeats 8000000 in
set_option maxRecDepth 100000 in
theorem impl_posts.inner (T : Bool → Bool → Bool) (g : Nat) (lb : Array Value) (eg : ∀ args w, (callFunc g args).run Try.prog w = .ok (.enter g args) w) (hT : ∀ (W : World) (a b : Bool), Calls Try.prog g (#[.bool a, .bool b] ++ lb) W fun e w' => e = .returned (.bool (T a b)) ∧ Below W.heap.size W w')
  (x : Int) (A0 : Option Addr) (c0 : Nat) (l0 : List Int) (A1 : Option Addr) (c1 : Nat) (l1 : List Int) (p q s : Nat) (w : World) (h3 : w.cell? ⟨p, 0, none⟩ = some (.slice A0 l0.length c0)) (h4 : w.cell? ⟨q, 0, none⟩ = some (.slice A1 l1.length c1)) (h5 : w.cell? ⟨s, 0, none⟩ = some (.func (.func g) #[] lb)) (hr0 : Kd.C (Kd.int .i64) w A0 l0.length l0) (hr1 : Kd.C (Kd.int .i64) w A1 l1.length l1) (hl0 : l0.length ≤ 1000) (hl1 : l1.length ≤ 1000) (hs0 : l0.Pairwise (· ≤ ·)) (hs1 : l1.Pairwise (· ≤ ·)) :
  Calls Try.prog 138 #[.int .i64 x, .pointer (some ⟨p, 0, none⟩), .pointer (some ⟨q, 0, none⟩), .pointer (some ⟨s, 0, none⟩)] w fun e w' => e = .returned (.bool (T (decide (x ∈ l0)) (decide (x ∈ l1)))) ∧ Below w.heap.size w w' := by
 have HR0 := am_ hr0
 have HR1 := am_ hr1
 have HL0 := am_ hl0
 have HL1 := am_ hl1
 have HS0 := am_ hs0
 have HS1 := am_ hs1
 clear hr0 hr1 hl0 hl1 hs0 hs1
 have H4 := am_ h4
 have H5 := am_ h5
 clear h4 h5
 have HT := am_ hT
 clear hT
 have HB := am_ (Below.refl w.heap.size w)
 go_enter Try.func138, Try.ntmps138
 go_wp2_with (first | (go_at_call 139; (with_reducible refine (impl_posts.search l0 x A0 c0 w HR0.out HL0.out HS0.out).mono ?_); rintro e w8 ⟨m1, rfl, hb⟩; have n0_ := am_ (below_step HB.out hb); clear HB hb; have HB := n0_; clear n0_; have h4_ := kp_ HB H4.out; clear H4) | (go_at_call 139; (with_reducible refine (impl_posts.search l1 x A1 c1 _ (Kd.C_below HR1.out HB.out) HL1.out HS1.out).mono ?_); rintro e w9 ⟨m2, rfl, hb⟩; have n0_ := am_ (below_step HB.out hb); clear HB hb; have HB := n0_; clear n0_; have h5_ := kp_ HB H5.out; clear H5) | (with_reducible refine Calls.mono (HT.out _ (decide (x ∈ l0)) (decide (x ∈ l1))) ?_; rintro e w10 ⟨rfl, hb⟩; have n0_ := am_ (below_step HB.out hb); clear HB hb; have HB := n0_; clear n0_))
 go_ret
 exact ⟨rf_, bl_⟩
def impl_posts.f (k : Nat) (T : Bool → Bool → Bool) (l0 l1 : List Int) : Option (List Int) := if (l0.length : Int) > 1000 then some [] else if (l1.length : Int) > 1000 then some [] else (impl_rising_int.f k l0).bind fun b0 => if b0 = false then some [] else (impl_rising_int.f k l1).bind fun b1 => if b1 = false then some [] else if l0.Pairwise (· ≤ ·) ∧ l1.Pairwise (· ≤ ·) then impl_filter_int.f k (fun x => some (T (decide (x ∈ l0)) (decide (x ∈ l1)))) (Go.Lib.compact ((l0 ++ l1).mergeSort fun x y => decide (x ≤ y))) else none
theorem impl_posts.mono (T : Bool → Bool → Bool) (l0 l1 : List Int) (k : Nat) : LeO (impl_posts.f k T l0 l1) (impl_posts.f (k + 1) T l0 l1) := by
 unfold impl_posts.f
 exact LeO.ite (LeO.refl _) (LeO.ite (LeO.refl _) (LeO.bind (impl_rising_int.mono _ _) (fun _ => LeO.ite (LeO.refl _) (LeO.bind (impl_rising_int.mono _ _) (fun _ => LeO.ite (LeO.refl _) (LeO.ite (impl_filter_int.mono _ _ (fun _ => LeO.refl _) _ _) (LeO.refl _)))))))
-- WALK (written by mkposts.py)
def impl_posts.T3 : Bool × List (List Nat × List Nat) := (true, [([], []), ([0], [0]), ([], []), ([1, 2, 1], [1, 2]), ([3, 3, 0, 1, 2, 3], [3])])
def impl_posts.B3 : List Nat := [0, 1, 0, 7, 15]
theorem impl_posts.tab3 : rtab .any (opsOf Try.f104 3) = impl_posts.T3 := by kernel_rfl
theorem impl_posts.bits3 : waitsOk impl_posts.T3.2 impl_posts.B3 = true := by kernel_rfl
set_option maxHeartbeats 8000000 in
set_option maxRecDepth 100000 in
theorem impl_posts.calls (k : Nat) (T : Bool → Bool → Bool) (g : Nat) (lb : Array Value) (eg : ∀ args w, (callFunc g args).run Try.prog w = .ok (.enter g args) w) (hT : ∀ (W : World) (a b : Bool), Calls Try.prog g (#[.bool a, .bool b] ++ lb) W fun e w' => e = .returned (.bool (T a b)) ∧ Below W.heap.size W w') (A0 : Option Addr) (c0 : Nat) (l0 : List Int) (A1 : Option Addr) (c1 : Nat) (l1 : List Int) (r : List Int) (w : World) (hr0 : Kd.C (Kd.int .i64) w A0 l0.length l0) (hc0 : l0.length ≤ c0) (hr1 : Kd.C (Kd.int .i64) w A1 l1.length l1) (hc1 : l1.length ≤ c1) (h : impl_posts.f k T l0 l1 = some r) :
  Calls Try.prog 104 #[.slice A0 l0.length c0, .slice A1 l1.length c1, .func (.func g) #[] lb] w fun e w' => ∃ v0_ : Value, e = .returned (v0_) ∧ Kd.R (Kd.int .i64) 3 w' w.heap.size (fun _ => True) v0_ r ∧ Below w.heap.size w w' := by
 have HR0 := am_ hr0
 have HR1 := am_ hr1
 have HC0 := am_ hc0
 have HC1 := am_ hc1
 clear hr0 hr1 hc0 hc1
 have HT0 := am_ hT
 have EG := am_ eg
 clear hT eg
 have HB := am_ (Below.refl w.heap.size w)
 unfold impl_posts.f at h
 by_cases c0_ : (l0.length : Int) > 1000
 ·rw [if_pos c0_] at h
  have c0b := decide_eq_true c0_
  clear c0_
  obtain rfl := Option.some.inj h
  go_enter Try.func104, Try.ntmps104
  go_wp2_with (first | ((with_reducible refine gate_dst (N := 3) rfl ?_); refine box_event ?hg (N := 3) ?hd (cs := #[.slice A0 l0.length c0]) (t := 64) ?hr ?_; (case hd => rfl); (case hg => rfl); (case hr => first | (go_simp; done) | (go_simp; rfl)); intro g0 hg w8 hbox hb; have n0_ := am_ (hbox); have n1_ := am_ (below_step bl_ hb); clear HB; have BK0 := n0_; have HB := n1_; clear n0_ n1_; clear hbox hb hg; have hcz0 := bc1_0 BK0; have hfz0 := bf_ BK0 0) | ((with_reducible refine gate_dst (N := 4) rfl ?_); refine box_event ?hg (N := 4) ?hd (cs := #[.slice A1 l1.length c1]) (t := 64) ?hr ?_; (case hd => rfl); (case hg => rfl); (case hr => first | (go_simp; done) | (go_simp; rfl)); intro g1 hg w9 hbox hb; have n0_ := am_ (blk_below BK0.out hb); have n1_ := am_ (hbox); have n2_ := am_ (below_step bl_ hb); clear BK0 HB; have BK0 := n0_; have BK1 := n1_; have HB := n2_; clear n0_ n1_ n2_; clear hbox hb hg; have hcz0 := bc1_0 BK0; have hfz0 := bf_ BK0 0; have hcz1 := bc1_0 BK1; have hfz1 := bf_ BK1 0) | ((with_reducible refine gate_dst (N := 5) rfl ?_); refine box_event ?hg (N := 5) ?hd (cs := #[.func (.func g) #[] lb]) (t := 117) ?hr ?_; (case hd => rfl); (case hg => rfl); (case hr => first | (go_simp; done) | (go_simp; rfl)); intro g2 hg w10 hbox hb; have n0_ := am_ (blk_below BK0.out hb); have n1_ := am_ (blk_below BK1.out hb); have n2_ := am_ (hbox); have n3_ := am_ (below_step bl_ hb); clear BK0 BK1 HB; have BK0 := n0_; have BK1 := n1_; have BK2 := n2_; have HB := n3_; clear n0_ n1_ n2_ n3_; clear hbox hb hg; have hcz0 := bc1_0 BK0; have hfz0 := bf_ BK0 0; have hcz1 := bc1_0 BK1; have hfz1 := bf_ BK1 0; have hcz2 := bc1_0 BK2; have hfz2 := bf_ BK2 0))
  go_ret
  exact ⟨_, rf_, Kd.R_nil _ _ _ _ _, bl_⟩
 ·rw [if_neg c0_] at h
  have c0b := decide_eq_false c0_
  have HL0 := am_ (show l0.length ≤ 1000 by omega)
  clear c0_
  by_cases c1_ : (l1.length : Int) > 1000
  ·rw [if_pos c1_] at h
   have c1b := decide_eq_true c1_
   clear c1_
   obtain rfl := Option.some.inj h
   go_enter Try.func104, Try.ntmps104
   go_wp2_with (first | ((with_reducible refine gate_dst (N := 3) rfl ?_); refine box_event ?hg (N := 3) ?hd (cs := #[.slice A0 l0.length c0]) (t := 64) ?hr ?_; (case hd => rfl); (case hg => rfl); (case hr => first | (go_simp; done) | (go_simp; rfl)); intro g0 hg w8 hbox hb; have n0_ := am_ (hbox); have n1_ := am_ (below_step bl_ hb); clear HB; have BK0 := n0_; have HB := n1_; clear n0_ n1_; clear hbox hb hg; have hcz0 := bc1_0 BK0; have hfz0 := bf_ BK0 0) | ((with_reducible refine gate_dst (N := 4) rfl ?_); refine box_event ?hg (N := 4) ?hd (cs := #[.slice A1 l1.length c1]) (t := 64) ?hr ?_; (case hd => rfl); (case hg => rfl); (case hr => first | (go_simp; done) | (go_simp; rfl)); intro g1 hg w9 hbox hb; have n0_ := am_ (blk_below BK0.out hb); have n1_ := am_ (hbox); have n2_ := am_ (below_step bl_ hb); clear BK0 HB; have BK0 := n0_; have BK1 := n1_; have HB := n2_; clear n0_ n1_ n2_; clear hbox hb hg; have hcz0 := bc1_0 BK0; have hfz0 := bf_ BK0 0; have hcz1 := bc1_0 BK1; have hfz1 := bf_ BK1 0) | ((with_reducible refine gate_dst (N := 5) rfl ?_); refine box_event ?hg (N := 5) ?hd (cs := #[.func (.func g) #[] lb]) (t := 117) ?hr ?_; (case hd => rfl); (case hg => rfl); (case hr => first | (go_simp; done) | (go_simp; rfl)); intro g2 hg w10 hbox hb; have n0_ := am_ (blk_below BK0.out hb); have n1_ := am_ (blk_below BK1.out hb); have n2_ := am_ (hbox); have n3_ := am_ (below_step bl_ hb); clear BK0 BK1 HB; have BK0 := n0_; have BK1 := n1_; have BK2 := n2_; have HB := n3_; clear n0_ n1_ n2_ n3_; clear hbox hb hg; have hcz0 := bc1_0 BK0; have hfz0 := bf_ BK0 0; have hcz1 := bc1_0 BK1; have hfz1 := bf_ BK1 0; have hcz2 := bc1_0 BK2; have hfz2 := bf_ BK2 0))
   go_ret
   exact ⟨_, rf_, Kd.R_nil _ _ _ _ _, bl_⟩
  ·rw [if_neg c1_] at h
   have c1b := decide_eq_false c1_
   have HL1 := am_ (show l1.length ≤ 1000 by omega)
   clear c1_
   obtain ⟨b0, hb0_, h⟩ := Option.bind_eq_some_iff.mp h
   have hb0 := am_ hb0_
   clear hb0_
   cases b0 with
   | false =>
    rw [if_pos rfl] at h
    obtain rfl := Option.some.inj h
    go_enter Try.func104, Try.ntmps104
    go_wp2_with (first | ((with_reducible refine gate_dst (N := 3) rfl ?_); refine box_event ?hg (N := 3) ?hd (cs := #[.slice A0 l0.length c0]) (t := 64) ?hr ?_; (case hd => rfl); (case hg => rfl); (case hr => first | (go_simp; done) | (go_simp; rfl)); intro g0 hg w8 hbox hb; have n0_ := am_ (hbox); have n1_ := am_ (below_step bl_ hb); clear HB; have BK0 := n0_; have HB := n1_; clear n0_ n1_; clear hbox hb hg; have hcz0 := bc1_0 BK0; have hfz0 := bf_ BK0 0) | ((with_reducible refine gate_dst (N := 4) rfl ?_); refine box_event ?hg (N := 4) ?hd (cs := #[.slice A1 l1.length c1]) (t := 64) ?hr ?_; (case hd => rfl); (case hg => rfl); (case hr => first | (go_simp; done) | (go_simp; rfl)); intro g1 hg w9 hbox hb; have n0_ := am_ (blk_below BK0.out hb); have n1_ := am_ (hbox); have n2_ := am_ (below_step bl_ hb); clear BK0 HB; have BK0 := n0_; have BK1 := n1_; have HB := n2_; clear n0_ n1_ n2_; clear hbox hb hg; have hcz0 := bc1_0 BK0; have hfz0 := bf_ BK0 0; have hcz1 := bc1_0 BK1; have hfz1 := bf_ BK1 0) | ((with_reducible refine gate_dst (N := 5) rfl ?_); refine box_event ?hg (N := 5) ?hd (cs := #[.func (.func g) #[] lb]) (t := 117) ?hr ?_; (case hd => rfl); (case hg => rfl); (case hr => first | (go_simp; done) | (go_simp; rfl)); intro g2 hg w10 hbox hb; have n0_ := am_ (blk_below BK0.out hb); have n1_ := am_ (blk_below BK1.out hb); have n2_ := am_ (hbox); have n3_ := am_ (below_step bl_ hb); clear BK0 BK1 HB; have BK0 := n0_; have BK1 := n1_; have BK2 := n2_; have HB := n3_; clear n0_ n1_ n2_ n3_; clear hbox hb hg; have hcz0 := bc1_0 BK0; have hfz0 := bf_ BK0 0; have hcz1 := bc1_0 BK1; have hfz1 := bf_ BK1 0; have hcz2 := bc1_0 BK2; have hfz2 := bf_ BK2 0) | (go_at_call 133; (with_reducible refine (impl_rising_int.calls k A0 c0 l0 false _ ?rs1 ?rs2 hb0.out).mono ?_); (case rs1 => exact Kd.C_below HR0.out HB.out); (case rs2 => exact HC0.out); rintro e w11 ⟨rfl, hd_⟩; have hb : Below w10.heap.size w10 w11 := (by obtain ⟨nd_, rfl⟩ := hd_; exact pw_below_drewN (Below.refl _ _) nd_); clear hd_; have n0_ := am_ (blk_below BK0.out hb); have n1_ := am_ (blk_below BK1.out hb); have n2_ := am_ (blk_below BK2.out hb); have n3_ := am_ (below_step HB.out hb); clear BK0 BK1 BK2 HB; have BK0 := n0_; have BK1 := n1_; have BK2 := n2_; have HB := n3_; clear n0_ n1_ n2_ n3_; clear hb; have hcz0 := bc1_0 BK0; have hfz0 := bf_ BK0 0; have hcz1 := bc1_0 BK1; have hfz1 := bf_ BK1 0; have hcz2 := bc1_0 BK2; have hfz2 := bf_ BK2 0))
    go_ret
    exact ⟨_, rf_, Kd.R_nil _ _ _ _ _, bl_⟩
   | true =>
    rw [if_neg (by decide)] at h
    obtain ⟨b1, hb1_, h⟩ := Option.bind_eq_some_iff.mp h
    have hb1 := am_ hb1_
    clear hb1_
    cases b1 with
    | false =>
     rw [if_pos rfl] at h
     obtain rfl := Option.some.inj h
     go_enter Try.func104, Try.ntmps104
     go_wp2_with (first | ((with_reducible refine gate_dst (N := 3) rfl ?_); refine box_event ?hg (N := 3) ?hd (cs := #[.slice A0 l0.length c0]) (t := 64) ?hr ?_; (case hd => rfl); (case hg => rfl); (case hr => first | (go_simp; done) | (go_simp; rfl)); intro g0 hg w8 hbox hb; have n0_ := am_ (hbox); have n1_ := am_ (below_step bl_ hb); clear HB; have BK0 := n0_; have HB := n1_; clear n0_ n1_; clear hbox hb hg; have hcz0 := bc1_0 BK0; have hfz0 := bf_ BK0 0) | ((with_reducible refine gate_dst (N := 4) rfl ?_); refine box_event ?hg (N := 4) ?hd (cs := #[.slice A1 l1.length c1]) (t := 64) ?hr ?_; (case hd => rfl); (case hg => rfl); (case hr => first | (go_simp; done) | (go_simp; rfl)); intro g1 hg w9 hbox hb; have n0_ := am_ (blk_below BK0.out hb); have n1_ := am_ (hbox); have n2_ := am_ (below_step bl_ hb); clear BK0 HB; have BK0 := n0_; have BK1 := n1_; have HB := n2_; clear n0_ n1_ n2_; clear hbox hb hg; have hcz0 := bc1_0 BK0; have hfz0 := bf_ BK0 0; have hcz1 := bc1_0 BK1; have hfz1 := bf_ BK1 0) | ((with_reducible refine gate_dst (N := 5) rfl ?_); refine box_event ?hg (N := 5) ?hd (cs := #[.func (.func g) #[] lb]) (t := 117) ?hr ?_; (case hd => rfl); (case hg => rfl); (case hr => first | (go_simp; done) | (go_simp; rfl)); intro g2 hg w10 hbox hb; have n0_ := am_ (blk_below BK0.out hb); have n1_ := am_ (blk_below BK1.out hb); have n2_ := am_ (hbox); have n3_ := am_ (below_step bl_ hb); clear BK0 BK1 HB; have BK0 := n0_; have BK1 := n1_; have BK2 := n2_; have HB := n3_; clear n0_ n1_ n2_ n3_; clear hbox hb hg; have hcz0 := bc1_0 BK0; have hfz0 := bf_ BK0 0; have hcz1 := bc1_0 BK1; have hfz1 := bf_ BK1 0; have hcz2 := bc1_0 BK2; have hfz2 := bf_ BK2 0) | (go_at_call 133; (with_reducible refine (impl_rising_int.calls k A0 c0 l0 true _ ?rs1 ?rs2 hb0.out).mono ?_); (case rs1 => exact Kd.C_below HR0.out HB.out); (case rs2 => exact HC0.out); rintro e w11 ⟨rfl, hd_⟩; have hb : Below w10.heap.size w10 w11 := (by obtain ⟨nd_, rfl⟩ := hd_; exact pw_below_drewN (Below.refl _ _) nd_); clear hd_; have n0_ := am_ (blk_below BK0.out hb); have n1_ := am_ (blk_below BK1.out hb); have n2_ := am_ (blk_below BK2.out hb); have n3_ := am_ (below_step HB.out hb); clear BK0 BK1 BK2 HB; have BK0 := n0_; have BK1 := n1_; have BK2 := n2_; have HB := n3_; clear n0_ n1_ n2_ n3_; clear hb; have hcz0 := bc1_0 BK0; have hfz0 := bf_ BK0 0; have hcz1 := bc1_0 BK1; have hfz1 := bf_ BK1 0; have hcz2 := bc1_0 BK2; have hfz2 := bf_ BK2 0) | (go_at_call 133; (with_reducible refine (impl_rising_int.calls k A1 c1 l1 false _ ?rs1 ?rs2 hb1.out).mono ?_); (case rs1 => exact Kd.C_below HR1.out HB.out); (case rs2 => exact HC1.out); rintro e w12 ⟨rfl, hd_⟩; have hb : Below w11.heap.size w11 w12 := (by obtain ⟨nd_, rfl⟩ := hd_; exact pw_below_drewN (Below.refl _ _) nd_); clear hd_; have n0_ := am_ (blk_below BK0.out hb); have n1_ := am_ (blk_below BK1.out hb); have n2_ := am_ (blk_below BK2.out hb); have n3_ := am_ (below_step HB.out hb); clear BK0 BK1 BK2 HB; have BK0 := n0_; have BK1 := n1_; have BK2 := n2_; have HB := n3_; clear n0_ n1_ n2_ n3_; clear hb; have hcz0 := bc1_0 BK0; have hfz0 := bf_ BK0 0; have hcz1 := bc1_0 BK1; have hfz1 := bf_ BK1 0; have hcz2 := bc1_0 BK2; have hfz2 := bf_ BK2 0))
     go_ret
     exact ⟨_, rf_, Kd.R_nil _ _ _ _ _, bl_⟩
    | true =>
     rw [if_neg (by decide)] at h
     by_cases hs_ : l0.Pairwise (· ≤ ·) ∧ l1.Pairwise (· ≤ ·)
     ·rw [if_pos hs_] at h
      have HS := am_ hs_
      clear hs_
      have H := am_ h
      clear h
      have hcl : slices_Clone_int_int.f l0 = some l0 := by unfold slices_Clone_int_int.f; rw [if_pos (by have := HL0.out; omega)]
      have HCL := am_ hcl
      clear hcl
      have HLL := am_ (show (l0 ++ l1).length ≤ 2000 by rw [List.length_append]; have := HL0.out; have := HL1.out; omega)
      go_enter Try.func104, Try.ntmps104
      go_upto_region 3 with (first | ((with_reducible refine gate_dst (N := 3) rfl ?_); refine box_event ?hg (N := 3) ?hd (cs := #[.slice A0 l0.length c0]) (t := 64) ?hr ?_; (case hd => rfl); (case hg => rfl); (case hr => first | (go_simp; done) | (go_simp; rfl)); intro g0 hg w8 hbox hb; have n0_ := am_ (hbox); have n1_ := am_ (below_step bl_ hb); clear HB; have BK0 := n0_; have HB := n1_; clear n0_ n1_; clear hbox hb hg; have hcz0 := bc1_0 BK0; have hfz0 := bf_ BK0 0) | ((with_reducible refine gate_dst (N := 4) rfl ?_); refine box_event ?hg (N := 4) ?hd (cs := #[.slice A1 l1.length c1]) (t := 64) ?hr ?_; (case hd => rfl); (case hg => rfl); (case hr => first | (go_simp; done) | (go_simp; rfl)); intro g1 hg w9 hbox hb; have n0_ := am_ (blk_below BK0.out hb); have n1_ := am_ (hbox); have n2_ := am_ (below_step bl_ hb); clear BK0 HB; have BK0 := n0_; have BK1 := n1_; have HB := n2_; clear n0_ n1_ n2_; clear hbox hb hg; have hcz0 := bc1_0 BK0; have hfz0 := bf_ BK0 0; have hcz1 := bc1_0 BK1; have hfz1 := bf_ BK1 0) | ((with_reducible refine gate_dst (N := 5) rfl ?_); refine box_event ?hg (N := 5) ?hd (cs := #[.func (.func g) #[] lb]) (t := 117) ?hr ?_; (case hd => rfl); (case hg => rfl); (case hr => first | (go_simp; done) | (go_simp; rfl)); intro g2 hg w10 hbox hb; have n0_ := am_ (blk_below BK0.out hb); have n1_ := am_ (blk_below BK1.out hb); have n2_ := am_ (hbox); have n3_ := am_ (below_step bl_ hb); clear BK0 BK1 HB; have BK0 := n0_; have BK1 := n1_; have BK2 := n2_; have HB := n3_; clear n0_ n1_ n2_ n3_; clear hbox hb hg; have hcz0 := bc1_0 BK0; have hfz0 := bf_ BK0 0; have hcz1 := bc1_0 BK1; have hfz1 := bf_ BK1 0; have hcz2 := bc1_0 BK2; have hfz2 := bf_ BK2 0) | (go_at_call 133; (with_reducible refine (impl_rising_int.calls k A0 c0 l0 true _ ?rs1 ?rs2 hb0.out).mono ?_); (case rs1 => exact Kd.C_below HR0.out HB.out); (case rs2 => exact HC0.out); rintro e w11 ⟨rfl, hd_⟩; have hb : Below w10.heap.size w10 w11 := (by obtain ⟨nd_, rfl⟩ := hd_; exact pw_below_drewN (Below.refl _ _) nd_); clear hd_; have n0_ := am_ (blk_below BK0.out hb); have n1_ := am_ (blk_below BK1.out hb); have n2_ := am_ (blk_below BK2.out hb); have n3_ := am_ (below_step HB.out hb); clear BK0 BK1 BK2 HB; have BK0 := n0_; have BK1 := n1_; have BK2 := n2_; have HB := n3_; clear n0_ n1_ n2_ n3_; clear hb; have hcz0 := bc1_0 BK0; have hfz0 := bf_ BK0 0; have hcz1 := bc1_0 BK1; have hfz1 := bf_ BK1 0; have hcz2 := bc1_0 BK2; have hfz2 := bf_ BK2 0) | (go_at_call 133; (with_reducible refine (impl_rising_int.calls k A1 c1 l1 true _ ?rs1 ?rs2 hb1.out).mono ?_); (case rs1 => exact Kd.C_below HR1.out HB.out); (case rs2 => exact HC1.out); rintro e w12 ⟨rfl, hd_⟩; have hb : Below w11.heap.size w11 w12 := (by obtain ⟨nd_, rfl⟩ := hd_; exact pw_below_drewN (Below.refl _ _) nd_); clear hd_; have n0_ := am_ (blk_below BK0.out hb); have n1_ := am_ (blk_below BK1.out hb); have n2_ := am_ (blk_below BK2.out hb); have n3_ := am_ (below_step HB.out hb); clear BK0 BK1 BK2 HB; have BK0 := n0_; have BK1 := n1_; have BK2 := n2_; have HB := n3_; clear n0_ n1_ n2_ n3_; clear hb; have hcz0 := bc1_0 BK0; have hfz0 := bf_ BK0 0; have hcz1 := bc1_0 BK1; have hfz1 := bf_ BK1 0; have hcz2 := bc1_0 BK2; have hfz2 := bf_ BK2 0))
      try go_wp2
      have n0_ := am_ (blk_drew BK0.out)
      have n1_ := am_ (blk_drew BK1.out)
      have n2_ := am_ (blk_drew BK2.out)
      have n3_ := am_ (below_drew1 HB.out)
      clear BK0 BK1 BK2 HB
      have BK0 := n0_
      have BK1 := n1_
      have BK2 := n2_
      have HB := n3_
      clear n0_ n1_ n2_ n3_
      refine start_ (n := 5) (S := fun w' => w'.cell? ⟨g0, 0, none⟩ = some (.slice A0 l0.length c0) ∧ w'.cell? ⟨g1, 0, none⟩ = some (.slice A1 l1.length c1)) (ds := []) (bz 5 0) (by kernel_rfl) rfl rfl ⟨bc1_0 BK0, bc1_0 BK1⟩ (fun hHeld => ?_)
      refine with_tabW impl_posts.tab3 impl_posts.bits3 (fun HT_ HW_ => ?_)
      generalize w12.drew = w13 at BK0 BK1 BK2 HB hHeld ⊢
      refine tz_ 0 26 1 ?_
      refine tz_ 2 28 5 ?_
      refine one_ (i := 1) (N := some 27) (bz 5 7) rfl rfl (one_of HT_.out (by kernel_rfl)) (by decide) (fun K hK => ?_)
      refine goes_ Try.func134 (by kernel_rfl) rfl #[.slice A0 l0.length c0] (by rfl) rfl rfl ag_ ?_
      with_reducible refine (slices_Clone_int_int.calls A0 c0 l0 l0 _ ?side1 ?side2 HCL.out).mono ?_
      (case side1 => exact Kd.C_below HR0.out HB.out)
      (case side2 => exact HC0.out)
      rintro e w14 ⟨v27, rfl, hR, hb⟩
      refine ⟨_, rfl, ?_⟩
      have n0_ := am_ (blk_below BK0.out hb); have n1_ := am_ (blk_below BK1.out hb); have n2_ := am_ (blk_below BK2.out hb); have n3_ := am_ (Kd.R_lower hR (below_size HB.out)); have n4_ := am_ (below_step HB.out hb); clear BK0 BK1 BK2 HB; have BK0 := n0_; have BK1 := n1_; have BK2 := n2_; have HO := n3_; have HB := n4_; clear n0_ n1_ n2_ n3_ n4_
      clear hR hb
      obtain ⟨A27, c27, e27⟩ := Kd.R_slice HO.out
      subst e27
      refine hK.out _ _ ⟨bc1_0 BK0, bc1_0 BK1⟩ (fun hHeld => ?_)
      clear hK K
      refine norm_ (a' := ?_) ?_ ?_
      rotate_left
      ·show Act.put _ (some 27) _ = _
       simp only [Act.put, List.setIfInBounds_toArray, List.set_cons_zero, List.set_cons_succ, i64_w, i32_w]
       rfl
      refine one_ (i := 3) (N := some 29) (bz 5 15) rfl rfl (one_of HT_.out (by kernel_rfl)) (by decide) (fun K hK => ?_)
      refine Kd.R_append_rows_step (Kd.int .i64) (w0 := w) w.heap.size (by rfl) (.tmp 27) (.tmp 28) 64 3 (.int .i64 0) 8 rfl Try.underlying64 info3 rfl (by decide) (by omega) (.slice A27 l0.length c27) l0 l1 _ _ _ (fun _ => True) (fun _ => False) rfl rfl ?aO ?aR (fun _ _ h => h) (fun _ h => h.elim) ?aF ?aB ?aS ?aL ?_
      (case aR => exact Kd.C_below HR1.out HB.out)
      (case aB => exact bg_)
      (case aF => exact (fun _ _ => trivial))
      (case aO => exact HO.out)
      (case aS => exact (below_size bg_))
      (case aL => have := HL0.out; have := HL1.out; omega)
      intro v29 w15 ho hb hg hat
      have n0_ := am_ (blk_grown (g := g0) BK0.out hg (Kd.R_ne HO.out BK0.out (by decide))); have n1_ := am_ (blk_grown (g := g1) BK1.out hg (Kd.R_ne HO.out BK1.out (by decide))); have n2_ := am_ (blk_grown (g := g2) BK2.out hg (Kd.R_ne HO.out BK2.out (by decide))); have n3_ := am_ (ho); have n4_ := am_ (hb); clear BK0 BK1 BK2 HB; have BK0 := n0_; have BK1 := n1_; have BK2 := n2_; have HO2 := n3_; have HB := n4_; clear n0_ n1_ n2_ n3_ n4_
      clear ho hb hg hat HO
      refine hK.out _ _ ⟨bc1_0 BK0, bc1_0 BK1⟩ (fun hHeld => ?_)
      clear hK K
      refine norm_ (a' := ?_) ?_ ?_
      rotate_left
      ·show Act.put _ (some 29) _ = _
       simp only [Act.put, List.setIfInBounds_toArray, List.set_cons_zero, List.set_cons_succ, i64_w, i32_w]
       rfl
      refine pz_ 4 7 31 ?_
      refine done_ (done_of HT_.out (by kernel_rfl)) ?_
      go_wp2_with (first | (go_at_call 135; (with_reducible refine (impl_posts.sort (l0 ++ l1) v29 w.heap.size (fun _ => True) w _ HB.out (Nat.le_refl _) HO2.out HLL.out).mono ?_); rintro e w16 ⟨rfl, ho, hb, hg⟩; have n0_ := am_ (blk_grown (g := g0) BK0.out hg (Kd.R_ne HO2.out BK0.out (by decide))); have n1_ := am_ (blk_grown (g := g1) BK1.out hg (Kd.R_ne HO2.out BK1.out (by decide))); have n2_ := am_ (blk_grown (g := g2) BK2.out hg (Kd.R_ne HO2.out BK2.out (by decide))); have n3_ := am_ (ho); have n4_ := am_ (hb); clear BK0 BK1 BK2 HO2 HB; have BK0 := n0_; have BK1 := n1_; have BK2 := n2_; have HO2 := n3_; have HB := n4_; clear n0_ n1_ n2_ n3_ n4_; clear ho hb hg) | (go_at_call 137; (with_reducible refine (impl_posts.compact ((l0 ++ l1).mergeSort fun x y => decide (x ≤ y)) v29 w.heap.size (fun _ => True) w _ HB.out (Nat.le_refl _) HO2.out (by rw [List.length_mergeSort]; exact HLL.out)).mono ?_); rintro e w17 ⟨v33, rfl, ho, hb, hg⟩; have n0_ := am_ (blk_grown (g := g0) BK0.out hg (Kd.R_ne HO2.out BK0.out (by decide))); have n1_ := am_ (blk_grown (g := g1) BK1.out hg (Kd.R_ne HO2.out BK1.out (by decide))); have n2_ := am_ (blk_grown (g := g2) BK2.out hg (Kd.R_ne HO2.out BK2.out (by decide))); have n3_ := am_ (ho); have n4_ := am_ (hb); clear BK0 BK1 BK2 HO2 HB; have BK0 := n0_; have BK1 := n1_; have BK2 := n2_; have HO2 := n3_; have HB := n4_; clear n0_ n1_ n2_ n3_ n4_; clear ho hb hg; obtain ⟨A33, c33, e33⟩ := Kd.R_slice HO2.out; subst e33) | (go_at_call 136; refine (impl_filter_int.calls k _ 138 #[.pointer (some ⟨g0, 0, none⟩), .pointer (some ⟨g1, 0, none⟩), .pointer (some ⟨g2, 0, none⟩)] (fun args w => enters_ Try.func138 (by kernel_rfl) rfl args w) A33 c33 _ r w17 (Kd.R_reads' HO2.out).2.2 (Kd.R_reads' HO2.out).2.1 ?hP H.out).mono ?_; (case hP => intro W x b hW hx; cases hx; exact impl_posts.inner T g lb EG.out HT0.out x A0 c0 l0 A1 c1 l1 g0 g1 g2 W (kp_ ⟨hW⟩ (bc1_0 BK0)) (kp_ ⟨hW⟩ (bc1_0 BK1)) (kp_ ⟨hW⟩ (bc1_0 BK2)) (Kd.C_below (Kd.C_below HR0.out HB.out) hW) (Kd.C_below (Kd.C_below HR1.out HB.out) hW) HL0.out HL1.out HS.out.1 HS.out.2); rintro e w18 ⟨v0, rfl, ho, hb⟩; have n0_ := am_ (Kd.R_lower ho (below_size HB.out)); have n1_ := am_ (below_step HB.out hb); clear HB; have HO3 := n0_; have HB := n1_; clear n0_ n1_ hb ho))
      go_ret
      exact ⟨_, rf_, HO3.out, bl_⟩
     ·rw [if_neg hs_] at h
      cases h

end Go.Proofs.Ytnnlgbpfdnaalaa.Pr
