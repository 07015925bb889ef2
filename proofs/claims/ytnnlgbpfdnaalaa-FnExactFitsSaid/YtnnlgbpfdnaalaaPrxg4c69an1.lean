/- Functions of the given program as plain Lean functions, and that the machine's calls come to them; written by a program of this session; no condition but those that each theorem states. -/
import Derived.Test.YtnnlgbpfdnaalaaPrx0
namespace Go.Proofs.Ytnnlgbpfdnaalaa.Pr
open Go.RowKit Go.Proofs.YtnnlgbpfdnaalaaW.PrintWords Go.Proofs.YtnnlgbpfdnaalaaW.PrintLast Go.Proofs.YtnnlgbpfdnaalaaW.PrintMore
attribute [local go_sem] max2_int min2_int max_two min_two max_three min_three max_four min_four   -- for this text's walks alone
set_option linter.unusedVariables false
set_option linter.unusedSimpArgs false

/-! ### spec_l2Rest: function 116 -/
mutual
def spec_l2Rest.l0 : Nat → List Int → ByteArray → List Bool → Int → Option (List Bool)
 | 0, _, _, _, _ => none
 | k + 1, x0, x1, x5, x6 => if x6 ≥ 0 then (if 0 ≤ (wrap64 ((x1.size : Int) + 1)) then (if (wrap64 ((x1.size : Int) + 1) : Int).toNat ≤ 281474976710656 then (spec_l2Rest.l1 k x0 x1 x5 x6 (List.replicate (wrap64 ((x1.size : Int) + 1) : Int).toNat false) (x1.size : Int)) else (none)) else (none)) else (some x5)
def spec_l2Rest.l1 : Nat → List Int → ByteArray → List Bool → Int → List Bool → Int → Option (List Bool)
 | 0, _, _, _, _, _, _ => none
 | k + 1, x0, x1, x5, x6, x7, x8 => if x8 ≥ 0 then (if 0 ≤ x6 then (if x6 < (x0.length : Int) then (if (rd x0 x6) = (-1) then (if 0 ≤ x8 then (if x8 < (x5.length : Int) then (if rdOf false x5 x8 = true then (if x8 < (x7.length : Int) then (spec_l2Rest.l1 k x0 x1 x5 x6 (x7.set (x8 : Int).toNat true) (wrap64 (x8 - 1))) else (none)) else (if x8 < (x1.size : Int) then (if 0 ≤ (wrap64 (x8 + 1)) then (if (wrap64 (x8 + 1)) < (x7.length : Int) then (if x8 < (x7.length : Int) then (spec_l2Rest.l1 k x0 x1 x5 x6 (x7.set (x8 : Int).toNat (rdOf false x7 (wrap64 (x8 + 1)))) (wrap64 (x8 - 1))) else (none)) else (none)) else (none)) else (if x8 < (x7.length : Int) then (spec_l2Rest.l1 k x0 x1 x5 x6 (x7.set (x8 : Int).toNat false) (wrap64 (x8 - 1))) else (none)))) else (none)) else (none)) else (if x8 < (x1.size : Int) then (if 0 ≤ (wrap64 (x8 + 1)) then (if (wrap64 (x8 + 1)) < (x5.length : Int) then (if rdOf false x5 (wrap64 (x8 + 1)) = true then (if (rd x0 x6) = (-2) then (if 0 ≤ x8 then (if x8 < (x7.length : Int) then (spec_l2Rest.l1 k x0 x1 x5 x6 (x7.set (x8 : Int).toNat true) (wrap64 (x8 - 1))) else (none)) else (none)) else (if 0 ≤ x8 then (if x8 < (x7.length : Int) then (spec_l2Rest.l1 k x0 x1 x5 x6 (x7.set (x8 : Int).toNat ((rd x0 x6) == (wrap64 (bt x1 x8)))) (wrap64 (x8 - 1))) else (none)) else (none))) else (if 0 ≤ x8 then (if x8 < (x7.length : Int) then (spec_l2Rest.l1 k x0 x1 x5 x6 (x7.set (x8 : Int).toNat false) (wrap64 (x8 - 1))) else (none)) else (none))) else (none)) else (none)) else (if 0 ≤ x8 then (if x8 < (x7.length : Int) then (spec_l2Rest.l1 k x0 x1 x5 x6 (x7.set (x8 : Int).toNat false) (wrap64 (x8 - 1))) else (none)) else (none)))) else (none)) else (none)) else (spec_l2Rest.l0 k x0 x1 x7 (wrap64 (x6 - 1)))
end
def spec_l2Rest.f (k : Nat) (l0 : List Int) (a1 : ByteArray) : Option (List Bool) := if 0 ≤ (wrap64 ((a1.size : Int) + 1)) then (if (wrap64 ((a1.size : Int) + 1) : Int).toNat ≤ 281474976710656 then ((some (List.replicate (wrap64 ((a1.size : Int) + 1) : Int).toNat false : List Bool)).bind fun y1001 => (if 0 ≤ (a1.size : Int) then (if (a1.size : Int) < (y1001.length : Int) then (spec_l2Rest.l0 k l0 a1 (y1001.set ((a1.size : Int) : Int).toNat true) (wrap64 ((l0.length : Int) - 1))) else (none)) else (none))) else (none)) else (none)
theorem spec_l2Rest.mono_l : ∀ k, (∀ y0 y1 y2 y3, LeO (spec_l2Rest.l0 k y0 y1 y2 y3) (spec_l2Rest.l0 (k + 1) y0 y1 y2 y3)) ∧ (∀ y0 y1 y2 y3 y4 y5, LeO (spec_l2Rest.l1 k y0 y1 y2 y3 y4 y5) (spec_l2Rest.l1 (k + 1) y0 y1 y2 y3 y4 y5))
 | 0 => ⟨fun _ _ _ _ r h => by simp [spec_l2Rest.l0] at h, fun _ _ _ _ _ _ r h => by simp [spec_l2Rest.l1] at h⟩
 | k + 1 => by
  obtain ⟨ih0, ih1⟩ := spec_l2Rest.mono_l k
  refine ⟨?_, ?_⟩
  ·intro y0 y1 y2 y3
   unfold spec_l2Rest.l0
   repeat' first
   | with_reducible first | exact ih0 _ _ _ _ | exact ih1 _ _ _ _ _ _ | exact LeO.refl _ | exact LeO.none _ | refine LeO.ite ?_ ?_ | refine LeO.bind ?_ (fun _ => ?_)
   | exact ih0 _ _ _ _
   | exact ih1 _ _ _ _ _ _
   | exact LeO.none _
   | refine LeO.ite ?_ ?_
   | refine LeO.bind ?_ (fun _ => ?_)
  ·intro y0 y1 y2 y3 y4 y5
   unfold spec_l2Rest.l1
   repeat' first
   | with_reducible first | exact ih0 _ _ _ _ | exact ih1 _ _ _ _ _ _ | exact LeO.refl _ | exact LeO.none _ | refine LeO.ite ?_ ?_ | refine LeO.bind ?_ (fun _ => ?_)
   | exact ih0 _ _ _ _
   | exact ih1 _ _ _ _ _ _
   | exact LeO.none _
   | refine LeO.ite ?_ ?_
   | refine LeO.bind ?_ (fun _ => ?_)
theorem spec_l2Rest.mono : ∀ a0 a1 k, LeO (spec_l2Rest.f k a0 a1) (spec_l2Rest.f (k + 1) a0 a1) := by
 intro a0 a1 k
 obtain ⟨ih0, ih1⟩ := spec_l2Rest.mono_l k
 unfold spec_l2Rest.f
 repeat' first
   | with_reducible first | exact ih0 _ _ _ _ | exact ih1 _ _ _ _ _ _ | exact LeO.refl _ | exact LeO.none _ | refine LeO.ite ?_ ?_ | refine LeO.bind ?_ (fun _ => ?_)
   | exact ih0 _ _ _ _
   | exact ih1 _ _ _ _ _ _
   | exact LeO.none _
   | refine LeO.ite ?_ ?_
   | refine LeO.bind ?_ (fun _ => ?_)
def spec_l2Rest.T12 : Bool × List (List Nat × List Nat) := (true, [([], []), ([], []), ([], []), ([], []), ([3], [3]), ([2, 4], [2, 4]), ([5], [5]), ([6], [6]), ([6], [6]), ([8, 6], [6, 8]), ([7, 9, 6], [6, 7, 9]), ([10, 6], [6, 10]), ([6, 11], [6, 11]), ([12, 6], [12]), ([13], [13]), ([13], [13]), ([14, 15, 13], [13, 14, 15]), ([16, 13], [13, 16]), ([17, 13], [13, 17]), ([18, 13, 13], [13, 18]), ([19], [19]), ([19], [19]), ([20, 21, 19], [19, 20, 21]), ([22, 19], [19, 22]), ([19], [19]), ([19], [19]), ([24, 25, 19], [19, 24, 25]), ([26, 19], [19, 26]), ([23, 27, 19], [19, 23, 27]), ([19, 28, 13], [13, 19, 28]), ([13, 29], [13, 29]), ([0, 1, 0, 1, 2, 3, 4, 5, 6, 7, 8, 9, 10, 11, 12, 13, 14, 15, 16, 17, 18, 19, 20, 21, 22, 23, 24, 25, 26, 27, 28, 29, 30], [0, 1]), ([31, 30, 19, 0, 1, 2, 3, 4, 5, 6, 7, 8, 9, 10, 11, 12, 13, 14, 15, 16, 17, 18, 19, 20, 21, 22, 23, 24, 25, 26, 27, 28, 29, 30], [30, 31])])
def spec_l2Rest.B12 : List Nat := [0, 0, 0, 0, 8, 28, 60, 124, 124, 380, 1020, 2044, 4092, 8188, 16380, 16380, 65532, 131068, 262140, 524284, 1048572, 1048572, 4194300, 8388604, 1048572, 1048572, 51380220, 118489084, 268435452, 536870908, 1073741820, 2147483647, 4294967295]
theorem spec_l2Rest.tab12 : rtab .any (opsOf Try.f116 12) = spec_l2Rest.T12 := by kernel_rfl
theorem spec_l2Rest.bits12 : waitsOk spec_l2Rest.T12.2 spec_l2Rest.B12 = true := by kernel_rfl
set_option maxHeartbeats 8000000 in
set_option maxRecDepth 100000 in
theorem spec_l2Rest.calls (k : Nat) (A0 : Option Addr) (c0 : Nat) (l0 : List Int) (a1 : ByteArray) (r : List Bool) (w : World) (hr0 : Kd.C (Kd.int .i64) w A0 l0.length l0) (hc0 : l0.length ≤ c0) (h : spec_l2Rest.f k l0 a1 = some r) :
  Calls Try.prog 116 #[.slice A0 l0.length c0, .string a1] w fun e w' => ∃ v0_ : Value, e = .returned (v0_) ∧ Kd.R Kd.bool 4 w' w.heap.size (fun _ => True) v0_ r ∧ Below w.heap.size w w' := by
 have HR0 := am_ hr0
 have HC0 := am_ hc0
 clear hr0 hc0
 have HB := am_ (Below.refl w.heap.size w)
 have H : (if 0 ≤ (wrap64 ((a1.size : Int) + 1)) then (if (wrap64 ((a1.size : Int) + 1) : Int).toNat ≤ 281474976710656 then ((some (List.replicate (wrap64 ((a1.size : Int) + 1) : Int).toNat false : List Bool)).bind fun y1001 => (if 0 ≤ (a1.size : Int) then (if (a1.size : Int) < (y1001.length : Int) then (spec_l2Rest.l0 k l0 a1 (y1001.set ((a1.size : Int) : Int).toNat true) (wrap64 ((l0.length : Int) - 1))) else (none)) else (none))) else (none)) else (none)) = some r := h
 clear h
 obtain ⟨ji3, hji3⟩ : ∃ j_ : Int, (wrap64 ((a1.size : Int) + 1)) = j_ := ⟨_, rfl⟩
 replace H : (if 0 ≤ (ji3) then (if (ji3 : Int).toNat ≤ 281474976710656 then ((some (List.replicate (ji3 : Int).toNat false : List Bool)).bind fun y1001 => (if 0 ≤ (a1.size : Int) then (if (a1.size : Int) < (y1001.length : Int) then (spec_l2Rest.l0 k l0 a1 (y1001.set ((a1.size : Int) : Int).toNat true) (wrap64 ((l0.length : Int) - 1))) else (none)) else (none))) else (none)) else (none)) = some r := by first | (rw [hji3] at H; exact H) | (simp only [hji3] at H ⊢; exact H)
 have hji3w : (IntKind.i64.wrap ((a1.size : Int) + 1)) = ji3 := (i64_w _).trans hji3
 by_cases c4 : 0 ≤ (ji3)
 ·rw [if_pos c4] at H
  have c4b0 := eq_true c4
  have c4b1 : decide (0 ≤ (ji3)) = true := decide_eq_true c4
  clear c4
  by_cases c5 : (ji3 : Int).toNat ≤ 281474976710656
  ·rw [if_pos c5] at H
   have c5b0 := eq_true c5
   have c5b1 : decide ((ji3 : Int).toNat ≤ 281474976710656) = true := decide_eq_true c5
   clear c5
   obtain ⟨y1001, hy1001⟩ : ∃ y_ : List Bool, y_ = (List.replicate (ji3 : Int).toNat false) := ⟨_, rfl⟩
   replace H : (if 0 ≤ (a1.size : Int) then (if (a1.size : Int) < (y1001.length : Int) then (spec_l2Rest.l0 k l0 a1 (y1001.set ((a1.size : Int) : Int).toNat true) (wrap64 ((l0.length : Int) - 1))) else (none)) else (none)) = some r := by first | (rw [hy1001]; with_reducible exact H) | (have H2_ := (Option.bind_some _ _).symm.trans H; rw [hy1001]; with_reducible exact H2_) | (have H2_ := (Option.bind_some _ _).symm.trans H; with_reducible exact H2_) | with_reducible exact H | (rw [hy1001]; exact H) | exact H
   have Ny1001 := am_ hy1001
   clear hy1001
   by_cases c6 : 0 ≤ (a1.size : Int)
   ·rw [if_pos c6] at H
    have c6b0 : decide (0 ≤ (a1.size : Int)) = true := decide_eq_true c6
    have c6b1 : decide (0 ≤ a1.size) = true := decide_eq_true (by omega)
    clear c6
    by_cases c7 : (a1.size : Int) < (y1001.length : Int)
    ·rw [if_pos c7] at H
     have c7b0 : decide ((a1.size : Int) < (y1001.length : Int)) = true := decide_eq_true c7
     have c7b1 : decide (a1.size < y1001.length) = true := decide_eq_true (Int.ofNat_lt.mp c7)
     clear c7
     obtain ⟨y1004, hy1004⟩ : ∃ y_ : List Bool, y_ = (y1001.set ((a1.size : Int) : Int).toNat true) := ⟨_, rfl⟩
     replace H : (spec_l2Rest.l0 k l0 a1 y1004 (wrap64 ((l0.length : Int) - 1))) = some r := by first | (rw [hy1004]; with_reducible exact H) | (have H2_ := (Option.bind_some _ _).symm.trans H; rw [hy1004]; with_reducible exact H2_) | (have H2_ := (Option.bind_some _ _).symm.trans H; with_reducible exact H2_) | with_reducible exact H | (rw [hy1004]; exact H) | exact H
     have Ny1004 := am_ hy1004
     clear hy1004
     have H' := am_ H
     clear H
     go_enter Try.func116, Try.ntmps116
     go_wp2_with (first | ((with_reducible refine gate_dst (N := 12) rfl ?_); (try (refine gate_guard (by rfl) ?_; dsimp only)); refine Kd.R_make Kd.bool _ 4 rfl (N := 12) rfl 126 _ _ rfl ji3 rfl rfl Try.underlying126 (.bool false) 1 info4 rfl (by decide) (by omega) false (ok := fun _ => True) (okp := fun _ => True) rfl (fun _ hk => hk) trivial (od_) (Nat.le_trans (Nat.mul_le_mul_right _ (od_ : ji3.toNat ≤ 281474976710656)) (by omega)) (Below.refl _ _) (Nat.le_refl _) ?_; intro v1002 w9 ho10 hb hg_ hnew_; clear hg_ hnew_; (first | rw [← Ny1001.out] at ho10 | (simp only [Int.reduceToNat] at ho10; rw [← Ny1001.out] at ho10)); have n0_ := am_ (Kd.R_lower ho10 (below_size bl_)); have n1_ := am_ (below_step bl_ hb); clear HB; have HO1003 := n0_; have HB := n1_; clear n0_ n1_; clear hb ho10; have p8 : 0 ≤ ((a1.size : Int) : Int) := od_; have q8 : ((a1.size : Int) : Int) < ((y1001.length : Int) : Int) := od_; obtain ⟨go8, co8, eo8, gb8, gl8, cl8, HG8⟩ := Kd.R_form HO1003.out (by omega); (first | cases eo8 | (injection eo8 with ea_ en_ ec_; (first | subst ea_ | (injection ea_ with ea_; subst ea_)); subst ec_; clear en_)); have GB8 := am_ gb8; have GG8 := am_ HG8; clear gb8 gl8 HG8; obtain ⟨hx8_0, hf8_0⟩ := Kd.R_celln false HO1003.out ((a1.size : Int) : Int) p8 q8; have hx8_0n := hx8_0; have hf8_0n := hf8_0; (try simp only [Int.toNat_natCast] at hx8_0n hf8_0n); replace p8 := eq_true p8; replace q8 := eq_true q8; obtain ⟨hy11_, hz11_⟩ := Kd.R_celln false HO1003.out ((a1.size : Int) : Int) (od_) (od_); have HP11 := Kd.R_putg HO1003.out ((a1.size : Int) : Int) true) | ((with_reducible refine gate_store (t := 4) (p := 16) rfl ?_); refine store_event (t := 4) (p := 16) (v := ?vo_w12) (w1 := (w9.setCell ⟨go8, ((a1.size : Int) : Int).toNat, none⟩ (.bool true))) ?hg ?ho ?hn ?hr ?_; (case ho => rfl); (case hg => rfl); (case hn => rfl); (case hr => first | (go_simp; done) | (go_simp; rfl) | ((try (obtain ⟨_, _, e_⟩ := Kd.R_slice HO1003.out; subst e_)); go_simp; first | done | rfl)); intro w12 hw; have hg : w9.grownBy w12 (some go8) := (by rw [hw]; exact HP11.2); have hp_ : Kd.R Kd.bool 4 w12 w.heap.size (fun _ => True) (.slice (some ⟨go8, 0, none⟩) y1001.length co8) y1004 := (by rw [hw, Ny1004.out]; exact HP11.1); clear HP11; have n0_ := am_ (hp_); have n1_ := am_ ((by rw [hw]; exact below_set (HB.out) GB8.out : Below w.heap.size w w12)); clear HO1003; clear HB; have HO1003 := n0_; have HB := n1_; clear n0_ n1_; clear hg hw hp_))
     go_loopg [5, 6] k (fun kq v5 v6 w' => ∃ (x5_1 : List Bool) (x6_1 : Int), v6 = .int .i64 x6_1 ∧ Aside0 (spec_l2Rest.l0 kq l0 a1 x5_1 x6_1 = some r) ∧ Aside0 (kq ≤ k) ∧ Aside0 (Kd.R Kd.bool 4 w' w.heap.size (fun _ => True) v5 x5_1) ∧ Aside0 (Below w.heap.size w w'))
     case atStart => exact ⟨(y1004), (wrap64 ((l0.length : Int) - 1)), rs_, H', ⟨Nat.le_refl _⟩, ⟨ro_ HO1003⟩, ⟨bl_⟩⟩
     case round =>
      clear H'
      try clear c1
      try clear p2
      try clear c4
      try clear c4b0
      try clear c4b1
      try clear c5
      try clear c5b0
      try clear c5b1
      try clear c6
      try clear c6b0
      try clear c6b1
      try clear p6
      try clear c7
      try clear c7b0
      try clear c7b1
      try clear p8
      try clear q8
      try clear hx8
      try clear hf8
      try clear c11
      try clear hx8_0
      try clear p8
      try clear q8
      obtain ⟨x5_1, x6_1, rfl, HA, HK1, HO_5, HB⟩ := hrel
      cases gk with
      | zero => exact absurd HA.out (by simp [spec_l2Rest.l0])
      | succ k1 =>
       have H := HA.out
       clear HA
       simp only [spec_l2Rest.l0] at H
       by_cases c13 : x6_1 ≥ 0
       ·rw [if_pos c13] at H
        have c13b0 : decide (0 ≤ x6_1) = true := decide_eq_true c13
        clear c13
        obtain ⟨ji14, hji14⟩ : ∃ j_ : Int, (wrap64 ((a1.size : Int) + 1)) = j_ := ⟨_, rfl⟩
        try clear hji3 hji3w
        replace H : (if 0 ≤ (ji14) then (if (ji14 : Int).toNat ≤ 281474976710656 then (spec_l2Rest.l1 k1 l0 a1 x5_1 x6_1 (List.replicate (ji14 : Int).toNat false) (a1.size : Int)) else (none)) else (none)) = some r := by first | (rw [hji14] at H; exact H) | (simp only [hji14] at H ⊢; exact H)
        have hji14w : (IntKind.i64.wrap ((a1.size : Int) + 1)) = ji14 := (i64_w _).trans hji14
        by_cases c15 : 0 ≤ (ji14)
        ·rw [if_pos c15] at H
         have c15b0 := eq_true c15
         have c15b1 : decide (0 ≤ (ji14)) = true := decide_eq_true c15
         clear c15
         by_cases c16 : (ji14 : Int).toNat ≤ 281474976710656
         ·rw [if_pos c16] at H
          have c16b0 := eq_true c16
          have c16b1 : decide ((ji14 : Int).toNat ≤ 281474976710656) = true := decide_eq_true c16
          clear c16
          obtain ⟨y1005, hy1005⟩ : ∃ y_ : List Bool, y_ = (List.replicate (ji14 : Int).toNat false) := ⟨_, rfl⟩
          replace H : (spec_l2Rest.l1 k1 l0 a1 x5_1 x6_1 y1005 (a1.size : Int)) = some r := by first | (rw [hy1005]; with_reducible exact H) | (have H2_ := (Option.bind_some _ _).symm.trans H; rw [hy1005]; with_reducible exact H2_) | (have H2_ := (Option.bind_some _ _).symm.trans H; with_reducible exact H2_) | with_reducible exact H | (rw [hy1005]; exact H) | exact H
          have Ny1005 := am_ hy1005
          clear hy1005
          have H' := am_ H
          clear H
          go_wp2_with (first | ((with_reducible refine gate_dst (N := 27) rfl ?_); (try (refine gate_guard (by rfl) ?_; dsimp only)); refine Kd.R_make Kd.bool _ 4 rfl (N := 27) rfl 126 _ _ rfl ji14 rfl rfl Try.underlying126 (.bool false) 1 info4 rfl (by decide) (by omega) false (ok := fun _ => True) (okp := fun _ => True) rfl (fun _ hk => hk) trivial (od_) (Nat.le_trans (Nat.mul_le_mul_right _ (od_ : ji14.toNat ≤ 281474976710656)) (by omega)) (Below.refl _ _) (Nat.le_refl _) ?_; intro v1006 w17 ho18 hb hg_ hnew_; clear hg_ hnew_; (first | rw [← Ny1005.out] at ho18 | (simp only [Int.reduceToNat] at ho18; rw [← Ny1005.out] at ho18)); have n0_ := am_ (Kd.R_elder' (ro_ HO_5) (Kd.R_base ho18) hb); have n1_ := am_ (Kd.R_lower (Kd.R_new' ho18 (Kd.R_lt (ro_ HO_5))) (below_size bl_)); have n2_ := am_ (below_step bl_ hb); clear HO_5; clear HB; have HO_5 := n0_; have HO1007 := n1_; have HB := n2_; clear n0_ n1_ n2_; clear hb ho18))
          go_loopg [8] k1 (fun kq v8 w' => ∃ (x7_2 : List Bool) (x8_2 : Int), v8 = .int .i64 x8_2 ∧ Aside0 (spec_l2Rest.l1 kq l0 a1 x5_1 x6_1 x7_2 x8_2 = some r) ∧ Aside0 (kq ≤ k1) ∧ Aside0 (Kd.R Kd.bool 4 w' w.heap.size (fun k_ => some k_ ≠ (v1006 : Value).ownBlock) u5 x5_1) ∧ Aside0 (Kd.R Kd.bool 4 w' w.heap.size (fun k_ => some k_ ≠ (u5 : Value).ownBlock) v1006 x7_2) ∧ Aside0 (Below w.heap.size w w'))
          case atStart => exact ⟨(y1005), ((a1.size : Int)), rs_, H', ⟨Nat.le_refl _⟩, ⟨by (with_reducible repeat (first | apply Kd.R_alloc | apply Kd.R_drewN | apply Kd.R_drew)); exact Kd.R_mono HO_5.out (fun _ hk => hk.2)⟩, ⟨by (with_reducible repeat (first | apply Kd.R_alloc | apply Kd.R_drewN | apply Kd.R_drew)); exact Kd.R_mono HO1007.out (fun _ hk => hk.2)⟩, ⟨bl_⟩⟩
          case round =>
           clear H'
           try clear c1
           try clear p2
           try clear c4
           try clear c4b0
           try clear c4b1
           try clear c5
           try clear c5b0
           try clear c5b1
           try clear c6
           try clear c6b0
           try clear c6b1
           try clear p6
           try clear c7
           try clear c7b0
           try clear c7b1
           try clear p8
           try clear q8
           try clear hx8
           try clear hf8
           try clear c11
           try clear c13
           try clear c13b0
           try clear c15
           try clear c15b0
           try clear c15b1
           try clear c16
           try clear c16b0
           try clear c16b1
           try clear hx8_0
           try clear p2
           try clear p6
           try clear p8
           try clear q8
           obtain ⟨x7_2, x8_2, rfl, HA, HK2, HO_5, HO_7, HB⟩ := hrel
           cases gk with
           | zero => exact absurd HA.out (by simp [spec_l2Rest.l1])
           | succ k2 =>
            have H := HA.out
            clear HA
            simp only [spec_l2Rest.l1] at H
            by_cases c19 : x8_2 ≥ 0
            ·rw [if_pos c19] at H
             have c19b0 : decide (0 ≤ x8_2) = true := decide_eq_true c19
             clear c19
             by_cases c20 : 0 ≤ x6_1
             ·rw [if_pos c20] at H
              have c20b0 : decide (0 ≤ x6_1) = true := decide_eq_true c20
              clear c20
              by_cases c21 : x6_1 < (l0.length : Int)
              ·rw [if_pos c21] at H
               have c21b0 : decide (x6_1 < (l0.length : Int)) = true := decide_eq_true c21
               clear c21
               by_cases c22 : (rd l0 x6_1) = (-1)
               ·rw [if_pos c22] at H
                have c22b0 : ((rd l0 x6_1) == (-1)) = true := beq_iff_eq.mpr c22
                have c22b1 : ((rd l0 x6_1) != (-1)) = false := bne_eq_false_iff_eq.mpr c22
                clear c22
                by_cases c23 : 0 ≤ x8_2
                ·rw [if_pos c23] at H
                 have c23b0 : decide (0 ≤ x8_2) = true := decide_eq_true c23
                 clear c23
                 by_cases c24 : x8_2 < (x5_1.length : Int)
                 ·rw [if_pos c24] at H
                  have c24b0 : decide (x8_2 < (x5_1.length : Int)) = true := decide_eq_true c24
                  clear c24
                  obtain ⟨bq25, hbq25⟩ : ∃ b_ : Bool, b_ = (rdOf false x5_1 x8_2) := ⟨_, rfl⟩
                  replace H : (if bq25 = true then (if x8_2 < (x7_2.length : Int) then (spec_l2Rest.l1 k2 l0 a1 x5_1 x6_1 (x7_2.set (x8_2 : Int).toNat true) (wrap64 (x8_2 - 1))) else (none)) else (if x8_2 < (a1.size : Int) then (if 0 ≤ (wrap64 (x8_2 + 1)) then (if (wrap64 (x8_2 + 1)) < (x7_2.length : Int) then (if x8_2 < (x7_2.length : Int) then (spec_l2Rest.l1 k2 l0 a1 x5_1 x6_1 (x7_2.set (x8_2 : Int).toNat (rdOf false x7_2 (wrap64 (x8_2 + 1)))) (wrap64 (x8_2 - 1))) else (none)) else (none)) else (none)) else (if x8_2 < (x7_2.length : Int) then (spec_l2Rest.l1 k2 l0 a1 x5_1 x6_1 (x7_2.set (x8_2 : Int).toNat false) (wrap64 (x8_2 - 1))) else (none)))) = some r := by rw [← hbq25] at H; exact H
                  have Nbq25 := am_ hbq25
                  clear hbq25
                  by_cases c26 : bq25 = true
                  ·subst c26
                   have H1 : (if x8_2 < (x7_2.length : Int) then (spec_l2Rest.l1 k2 l0 a1 x5_1 x6_1 (x7_2.set (x8_2 : Int).toNat true) (wrap64 (x8_2 - 1))) else (none)) = some r := by rw [if_pos rfl] at H; exact H
                   clear H
                   have H := H1
                   clear H1
                   by_cases c27 : x8_2 < (x7_2.length : Int)
                   ·rw [if_pos c27] at H
                    have c27b0 : decide (x8_2 < (x7_2.length : Int)) = true := decide_eq_true c27
                    clear c27
                    obtain ⟨y1010, hy1010⟩ : ∃ y_ : List Bool, y_ = (x7_2.set (x8_2 : Int).toNat true) := ⟨_, rfl⟩
                    replace H : (spec_l2Rest.l1 k2 l0 a1 x5_1 x6_1 y1010 (wrap64 (x8_2 - 1))) = some r := by first | (rw [hy1010]; with_reducible exact H) | (have H2_ := (Option.bind_some _ _).symm.trans H; rw [hy1010]; with_reducible exact H2_) | (have H2_ := (Option.bind_some _ _).symm.trans H; with_reducible exact H2_) | with_reducible exact H | (rw [hy1010]; exact H) | exact H
                    have Ny1010 := am_ hy1010
                    clear hy1010
                    have H' := am_ H
                    clear H
                    have p1008 : 0 ≤ (x6_1 : Int) := od_
                    have q1008 : x6_1 < (l0.length : Int) := od_
                    obtain ⟨ad1008, e1008, hx1008_0⟩ := Kd.at_int HR0.out x6_1 p1008 q1008
                    cases e1008
                    replace hx1008_0 := kp_ HB hx1008_0
                    replace p1008 := eq_true p1008
                    replace q1008 := eq_true q1008
                    obtain ⟨Ao29, co29, eo29⟩ := Kd.R_slice HO_5.out
                    subst eo29
                    have p1009 : 0 ≤ (x8_2 : Int) := od_
                    have q1009 : x8_2 < (x5_1.length : Int) := od_
                    obtain ⟨ad1009, e1009, hx1009_0⟩ := Kd.at_bool (Kd.R_reads' HO_5.out).2.2 x8_2 p1009 q1009
                    (try rw [← Nbq25.out] at hx1009_0)
                    cases e1009
                    replace p1009 := eq_true p1009
                    replace q1009 := eq_true q1009
                    have p28 : 0 ≤ (x8_2 : Int) := od_
                    have q28 : (x8_2 : Int) < ((x7_2.length : Int) : Int) := od_
                    obtain ⟨go28, co28, eo28, gb28, gl28, cl28, HG28⟩ := Kd.R_form HO_7.out (by omega)
                    (first | cases eo28 | (injection eo28 with ea_ en_ ec_; (first | subst ea_ | (injection ea_ with ea_; subst ea_)); subst ec_; clear en_))
                    have GB28 := am_ gb28
                    have GG28 := am_ HG28
                    clear gb28 gl28 HG28
                    obtain ⟨hx28_0, hf28_0⟩ := Kd.R_celln false HO_7.out (x8_2 : Int) p28 q28
                    replace p28 := eq_true p28
                    replace q28 := eq_true q28
                    have HP30 := Kd.R_putg HO_7.out (x8_2 : Int) true
                    go_wp2_with (first | ((with_reducible refine gate_store (t := 4) (p := 58) rfl ?_); refine store_event (t := 4) (p := 58) (v := ?vo_w31) (w1 := (wr.setCell ⟨go28, (x8_2 : Int).toNat, none⟩ (.bool true))) ?hg ?ho ?hn ?hr ?_; (case ho => rfl); (case hg => rfl); (case hn => rfl); (case hr => first | (go_simp; done) | (go_simp; rfl) | ((try (obtain ⟨_, _, e_⟩ := Kd.R_slice HO1003.out; subst e_)); (try (obtain ⟨_, _, e_⟩ := Kd.R_slice HO1007.out; subst e_)); go_simp; first | done | rfl)); intro w31 hw; have hg : wr.grownBy w31 (some go28) := (by rw [hw]; exact HP30.2); have hp_ : Kd.R Kd.bool 4 w31 w.heap.size (fun k_ => some k_ ≠ (.slice (some ad1009) x5_1.length co29 : Value).ownBlock) (.slice (some ⟨go28, 0, none⟩) x7_2.length co28) y1010 := (by rw [hw, Ny1010.out]; exact HP30.1); clear HP30; have n0_ := am_ (Kd.R_after (v := (.slice (some ⟨go28, 0, none⟩) x7_2.length co28)) (v1 := (.slice (some ⟨go28, 0, none⟩) x7_2.length co28)) (ok := (fun _ => True)) (by (with_reducible repeat (first | apply Kd.R_alloc | apply Kd.R_drewN | apply Kd.R_drew)); exact Kd.R_mono HO_5.out (fun _ hk => ⟨trivial, hk⟩)) hg (.inl rfl)); have n1_ := am_ (hp_); have n2_ := am_ ((by rw [hw]; exact below_set (HB.out) GB28.out : Below w.heap.size w w31)); clear HO_5; clear HO_7; clear HB; have HO_5 := n0_; have HO_7 := n1_; have HB := n2_; clear n0_ n1_ n2_; clear hg hw hp_))
                    go_roundg k2
                    case measure => have := HK1.out; have := HK2.out; omega
                    case rel => exact ⟨(y1010), (wrap64 (x8_2 - 1)), rs_, H', ⟨by have := HK1.out; have := HK2.out; omega⟩, ⟨by (with_reducible repeat (first | apply Kd.R_alloc | apply Kd.R_drewN | apply Kd.R_drew)); exact Kd.R_mono HO_5.out (fun _ hk => hk.2)⟩, ⟨ro_ HO_7⟩, ⟨bl_⟩⟩
                   ·rw [if_neg c27] at H
                    exact absurd H (by simp)
                  ·replace c26 := Bool.eq_false_iff.mpr c26
                   subst c26
                   have H1 : (if x8_2 < (a1.size : Int) then (if 0 ≤ (wrap64 (x8_2 + 1)) then (if (wrap64 (x8_2 + 1)) < (x7_2.length : Int) then (if x8_2 < (x7_2.length : Int) then (spec_l2Rest.l1 k2 l0 a1 x5_1 x6_1 (x7_2.set (x8_2 : Int).toNat (rdOf false x7_2 (wrap64 (x8_2 + 1)))) (wrap64 (x8_2 - 1))) else (none)) else (none)) else (none)) else (if x8_2 < (x7_2.length : Int) then (spec_l2Rest.l1 k2 l0 a1 x5_1 x6_1 (x7_2.set (x8_2 : Int).toNat false) (wrap64 (x8_2 - 1))) else (none))) = some r := by rw [if_neg (show ¬ (false = true) by decide)] at H; exact H
                   clear H
                   have H := H1
                   clear H1
                   by_cases c32 : x8_2 < (a1.size : Int)
                   ·rw [if_pos c32] at H
                    have c32b0 : decide (x8_2 < (a1.size : Int)) = true := decide_eq_true c32
                    clear c32
                    obtain ⟨ji33, hji33⟩ : ∃ j_ : Int, (wrap64 (x8_2 + 1)) = j_ := ⟨_, rfl⟩
                    replace H : (if 0 ≤ (ji33) then (if (ji33) < (x7_2.length : Int) then (if x8_2 < (x7_2.length : Int) then (spec_l2Rest.l1 k2 l0 a1 x5_1 x6_1 (x7_2.set (x8_2 : Int).toNat (rdOf false x7_2 (ji33))) (wrap64 (x8_2 - 1))) else (none)) else (none)) else (none)) = some r := by first | (rw [hji33] at H; exact H) | (simp only [hji33] at H ⊢; exact H)
                    have hji33w : (IntKind.i64.wrap (x8_2 + 1)) = ji33 := (i64_w _).trans hji33
                    by_cases c34 : 0 ≤ (ji33)
                    ·rw [if_pos c34] at H
                     have c34b0 : decide (0 ≤ (ji33)) = true := decide_eq_true c34
                     clear c34
                     by_cases c35 : (ji33) < (x7_2.length : Int)
                     ·rw [if_pos c35] at H
                      have c35b0 : decide ((ji33) < (x7_2.length : Int)) = true := decide_eq_true c35
                      clear c35
                      by_cases c36 : x8_2 < (x7_2.length : Int)
                      ·rw [if_pos c36] at H
                       have c36b0 : decide (x8_2 < (x7_2.length : Int)) = true := decide_eq_true c36
                       clear c36
                       obtain ⟨y1012, hy1012⟩ : ∃ y_ : List Bool, y_ = (x7_2.set (x8_2 : Int).toNat (rdOf false x7_2 (ji33))) := ⟨_, rfl⟩
                       replace H : (spec_l2Rest.l1 k2 l0 a1 x5_1 x6_1 y1012 (wrap64 (x8_2 - 1))) = some r := by first | (rw [hy1012]; with_reducible exact H) | (have H2_ := (Option.bind_some _ _).symm.trans H; rw [hy1012]; with_reducible exact H2_) | (have H2_ := (Option.bind_some _ _).symm.trans H; with_reducible exact H2_) | with_reducible exact H | (rw [hy1012]; exact H) | exact H
                       have Ny1012 := am_ hy1012
                       clear hy1012
                       have H' := am_ H
                       clear H
                       have p1008 : 0 ≤ (x6_1 : Int) := od_
                       have q1008 : x6_1 < (l0.length : Int) := od_
                       obtain ⟨ad1008, e1008, hx1008_0⟩ := Kd.at_int HR0.out x6_1 p1008 q1008
                       cases e1008
                       replace hx1008_0 := kp_ HB hx1008_0
                       replace p1008 := eq_true p1008
                       replace q1008 := eq_true q1008
                       obtain ⟨Ao38, co38, eo38⟩ := Kd.R_slice HO_5.out
                       subst eo38
                       have p1009 : 0 ≤ (x8_2 : Int) := od_
                       have q1009 : x8_2 < (x5_1.length : Int) := od_
                       obtain ⟨ad1009, e1009, hx1009_0⟩ := Kd.at_bool (Kd.R_reads' HO_5.out).2.2 x8_2 p1009 q1009
                       (try rw [← Nbq25.out] at hx1009_0)
                       cases e1009
                       replace p1009 := eq_true p1009
                       replace q1009 := eq_true q1009
                       obtain ⟨Ao39, co39, eo39⟩ := Kd.R_slice HO_7.out
                       subst eo39
                       have p1011 : 0 ≤ ((ji33) : Int) := od_
                       have q1011 : (ji33) < (x7_2.length : Int) := od_
                       obtain ⟨ad1011, e1011, hx1011_0⟩ := Kd.at_bool (Kd.R_reads' HO_7.out).2.2 (ji33) p1011 q1011
                       (try rw [← Nbq25.out] at hx1011_0)
                       cases e1011
                       replace p1011 := eq_true p1011
                       replace q1011 := eq_true q1011
                       have p37 : 0 ≤ (x8_2 : Int) := od_
                       have q37 : (x8_2 : Int) < ((x7_2.length : Int) : Int) := od_
                       obtain ⟨go37, co37, eo37, gb37, gl37, cl37, HG37⟩ := Kd.R_form HO_7.out (by omega)
                       (first | cases eo37 | (injection eo37 with ea_ en_ ec_; (first | subst ea_ | (injection ea_ with ea_; subst ea_)); subst ec_; clear en_))
                       have GB37 := am_ gb37
                       have GG37 := am_ HG37
                       clear gb37 gl37 HG37
                       (first | simp only [add_plain] at hx1011_0 | skip)
                       obtain ⟨hx37_0, hf37_0⟩ := Kd.R_celln false HO_7.out (x8_2 : Int) p37 q37
                       replace p37 := eq_true p37
                       replace q37 := eq_true q37
                       have HP40 := Kd.R_putg HO_7.out (x8_2 : Int) (rdOf false x7_2 (ji33))
                       go_wp2_with (first | ((with_reducible refine gate_store (t := 4) (p := 58) rfl ?_); refine store_event (t := 4) (p := 58) (v := ?vo_w41) (w1 := (wr.setCell ⟨go37, (x8_2 : Int).toNat, none⟩ (.bool (rdOf false x7_2 (ji33))))) ?hg ?ho ?hn ?hr ?_; (case ho => rfl); (case hg => rfl); (case hn => rfl); (case hr => first | (go_simp; done) | (go_simp; rfl) | ((try (obtain ⟨_, _, e_⟩ := Kd.R_slice HO1003.out; subst e_)); (try (obtain ⟨_, _, e_⟩ := Kd.R_slice HO1007.out; subst e_)); go_simp; first | done | rfl)); intro w41 hw; have hg : wr.grownBy w41 (some go37) := (by rw [hw]; exact HP40.2); have hp_ : Kd.R Kd.bool 4 w41 w.heap.size (fun k_ => some k_ ≠ (.slice (some ad1009) x5_1.length co38 : Value).ownBlock) (.slice (some ⟨go37, 0, none⟩) x7_2.length co39) y1012 := (by rw [hw, Ny1012.out]; exact HP40.1); clear HP40; have n0_ := am_ (Kd.R_after (v := (.slice (some ⟨go37, 0, none⟩) x7_2.length co39)) (v1 := (.slice (some ⟨go37, 0, none⟩) x7_2.length co39)) (ok := (fun _ => True)) (by (with_reducible repeat (first | apply Kd.R_alloc | apply Kd.R_drewN | apply Kd.R_drew)); exact Kd.R_mono HO_5.out (fun _ hk => ⟨trivial, hk⟩)) hg (.inl rfl)); have n1_ := am_ (hp_); have n2_ := am_ ((by rw [hw]; exact below_set (HB.out) GB37.out : Below w.heap.size w w41)); clear HO_5; clear HO_7; clear HB; have HO_5 := n0_; have HO_7 := n1_; have HB := n2_; clear n0_ n1_ n2_; clear hg hw hp_))
                       go_roundg k2
                       case measure => have := HK1.out; have := HK2.out; omega
                       case rel => exact ⟨(y1012), (wrap64 (x8_2 - 1)), rs_, H', ⟨by have := HK1.out; have := HK2.out; omega⟩, ⟨by (with_reducible repeat (first | apply Kd.R_alloc | apply Kd.R_drewN | apply Kd.R_drew)); exact Kd.R_mono HO_5.out (fun _ hk => hk.2)⟩, ⟨ro_ HO_7⟩, ⟨bl_⟩⟩
                      ·rw [if_neg c36] at H
                       exact absurd H (by simp)
                     ·rw [if_neg c35] at H
                      exact absurd H (by simp)
                    ·rw [if_neg c34] at H
                     exact absurd H (by simp)
                   ·rw [if_neg c32] at H
                    have c32b0 : decide (x8_2 < (a1.size : Int)) = false := decide_eq_false c32
                    clear c32
                    by_cases c42 : x8_2 < (x7_2.length : Int)
                    ·rw [if_pos c42] at H
                     have c42b0 : decide (x8_2 < (x7_2.length : Int)) = true := decide_eq_true c42
                     clear c42
                     obtain ⟨y1013, hy1013⟩ : ∃ y_ : List Bool, y_ = (x7_2.set (x8_2 : Int).toNat false) := ⟨_, rfl⟩
                     replace H : (spec_l2Rest.l1 k2 l0 a1 x5_1 x6_1 y1013 (wrap64 (x8_2 - 1))) = some r := by first | (rw [hy1013]; with_reducible exact H) | (have H2_ := (Option.bind_some _ _).symm.trans H; rw [hy1013]; with_reducible exact H2_) | (have H2_ := (Option.bind_some _ _).symm.trans H; with_reducible exact H2_) | with_reducible exact H | (rw [hy1013]; exact H) | exact H
                     have Ny1013 := am_ hy1013
                     clear hy1013
                     have H' := am_ H
                     clear H
                     have p1008 : 0 ≤ (x6_1 : Int) := od_
                     have q1008 : x6_1 < (l0.length : Int) := od_
                     obtain ⟨ad1008, e1008, hx1008_0⟩ := Kd.at_int HR0.out x6_1 p1008 q1008
                     cases e1008
                     replace hx1008_0 := kp_ HB hx1008_0
                     replace p1008 := eq_true p1008
                     replace q1008 := eq_true q1008
                     obtain ⟨Ao44, co44, eo44⟩ := Kd.R_slice HO_5.out
                     subst eo44
                     have p1009 : 0 ≤ (x8_2 : Int) := od_
                     have q1009 : x8_2 < (x5_1.length : Int) := od_
                     obtain ⟨ad1009, e1009, hx1009_0⟩ := Kd.at_bool (Kd.R_reads' HO_5.out).2.2 x8_2 p1009 q1009
                     (try rw [← Nbq25.out] at hx1009_0)
                     cases e1009
                     replace p1009 := eq_true p1009
                     replace q1009 := eq_true q1009
                     have p43 : 0 ≤ (x8_2 : Int) := od_
                     have q43 : (x8_2 : Int) < ((x7_2.length : Int) : Int) := od_
                     obtain ⟨go43, co43, eo43, gb43, gl43, cl43, HG43⟩ := Kd.R_form HO_7.out (by omega)
                     (first | cases eo43 | (injection eo43 with ea_ en_ ec_; (first | subst ea_ | (injection ea_ with ea_; subst ea_)); subst ec_; clear en_))
                     have GB43 := am_ gb43
                     have GG43 := am_ HG43
                     clear gb43 gl43 HG43
                     obtain ⟨hx43_0, hf43_0⟩ := Kd.R_celln false HO_7.out (x8_2 : Int) p43 q43
                     replace p43 := eq_true p43
                     replace q43 := eq_true q43
                     have HP45 := Kd.R_putg HO_7.out (x8_2 : Int) false
                     go_wp2_with (first | ((with_reducible refine gate_store (t := 4) (p := 58) rfl ?_); refine store_event (t := 4) (p := 58) (v := ?vo_w46) (w1 := (wr.setCell ⟨go43, (x8_2 : Int).toNat, none⟩ (.bool false))) ?hg ?ho ?hn ?hr ?_; (case ho => rfl); (case hg => rfl); (case hn => rfl); (case hr => first | (go_simp; done) | (go_simp; rfl) | ((try (obtain ⟨_, _, e_⟩ := Kd.R_slice HO1003.out; subst e_)); (try (obtain ⟨_, _, e_⟩ := Kd.R_slice HO1007.out; subst e_)); go_simp; first | done | rfl)); intro w46 hw; have hg : wr.grownBy w46 (some go43) := (by rw [hw]; exact HP45.2); have hp_ : Kd.R Kd.bool 4 w46 w.heap.size (fun k_ => some k_ ≠ (.slice (some ad1009) x5_1.length co44 : Value).ownBlock) (.slice (some ⟨go43, 0, none⟩) x7_2.length co43) y1013 := (by rw [hw, Ny1013.out]; exact HP45.1); clear HP45; have n0_ := am_ (Kd.R_after (v := (.slice (some ⟨go43, 0, none⟩) x7_2.length co43)) (v1 := (.slice (some ⟨go43, 0, none⟩) x7_2.length co43)) (ok := (fun _ => True)) (by (with_reducible repeat (first | apply Kd.R_alloc | apply Kd.R_drewN | apply Kd.R_drew)); exact Kd.R_mono HO_5.out (fun _ hk => ⟨trivial, hk⟩)) hg (.inl rfl)); have n1_ := am_ (hp_); have n2_ := am_ ((by rw [hw]; exact below_set (HB.out) GB43.out : Below w.heap.size w w46)); clear HO_5; clear HO_7; clear HB; have HO_5 := n0_; have HO_7 := n1_; have HB := n2_; clear n0_ n1_ n2_; clear hg hw hp_))
                     go_roundg k2
                     case measure => have := HK1.out; have := HK2.out; omega
                     case rel => exact ⟨(y1013), (wrap64 (x8_2 - 1)), rs_, H', ⟨by have := HK1.out; have := HK2.out; omega⟩, ⟨by (with_reducible repeat (first | apply Kd.R_alloc | apply Kd.R_drewN | apply Kd.R_drew)); exact Kd.R_mono HO_5.out (fun _ hk => hk.2)⟩, ⟨ro_ HO_7⟩, ⟨bl_⟩⟩
                    ·rw [if_neg c42] at H
                     exact absurd H (by simp)
                 ·rw [if_neg c24] at H
                  exact absurd H (by simp)
                ·rw [if_neg c23] at H
                 exact absurd H (by simp)
               ·rw [if_neg c22] at H
                have c22b0 : ((rd l0 x6_1) == (-1)) = false := beq_eq_false_iff_ne.mpr c22
                have c22b1 : ((rd l0 x6_1) != (-1)) = true := bne_iff_ne.mpr c22
                by_cases c47 : x8_2 < (a1.size : Int)
                ·rw [if_pos c47] at H
                 have c47b0 : decide (x8_2 < (a1.size : Int)) = true := decide_eq_true c47
                 clear c47
                 obtain ⟨ji48, hji48⟩ : ∃ j_ : Int, (wrap64 (x8_2 + 1)) = j_ := ⟨_, rfl⟩
                 replace H : (if 0 ≤ (ji48) then (if (ji48) < (x5_1.length : Int) then (if rdOf false x5_1 (ji48) = true then (if (rd l0 x6_1) = (-2) then (if 0 ≤ x8_2 then (if x8_2 < (x7_2.length : Int) then (spec_l2Rest.l1 k2 l0 a1 x5_1 x6_1 (x7_2.set (x8_2 : Int).toNat true) (wrap64 (x8_2 - 1))) else (none)) else (none)) else (if 0 ≤ x8_2 then (if x8_2 < (x7_2.length : Int) then (spec_l2Rest.l1 k2 l0 a1 x5_1 x6_1 (x7_2.set (x8_2 : Int).toNat ((rd l0 x6_1) == (wrap64 (bt a1 x8_2)))) (wrap64 (x8_2 - 1))) else (none)) else (none))) else (if 0 ≤ x8_2 then (if x8_2 < (x7_2.length : Int) then (spec_l2Rest.l1 k2 l0 a1 x5_1 x6_1 (x7_2.set (x8_2 : Int).toNat false) (wrap64 (x8_2 - 1))) else (none)) else (none))) else (none)) else (none)) = some r := by first | (rw [hji48] at H; exact H) | (simp only [hji48] at H ⊢; exact H)
                 have hji48w : (IntKind.i64.wrap (x8_2 + 1)) = ji48 := (i64_w _).trans hji48
                 by_cases c49 : 0 ≤ (ji48)
                 ·rw [if_pos c49] at H
                  have c49b0 : decide (0 ≤ (ji48)) = true := decide_eq_true c49
                  clear c49
                  by_cases c50 : (ji48) < (x5_1.length : Int)
                  ·rw [if_pos c50] at H
                   have c50b0 : decide ((ji48) < (x5_1.length : Int)) = true := decide_eq_true c50
                   clear c50
                   obtain ⟨bq51, hbq51⟩ : ∃ b_ : Bool, b_ = (rdOf false x5_1 (ji48)) := ⟨_, rfl⟩
                   replace H : (if bq51 = true then (if (rd l0 x6_1) = (-2) then (if 0 ≤ x8_2 then (if x8_2 < (x7_2.length : Int) then (spec_l2Rest.l1 k2 l0 a1 x5_1 x6_1 (x7_2.set (x8_2 : Int).toNat true) (wrap64 (x8_2 - 1))) else (none)) else (none)) else (if 0 ≤ x8_2 then (if x8_2 < (x7_2.length : Int) then (spec_l2Rest.l1 k2 l0 a1 x5_1 x6_1 (x7_2.set (x8_2 : Int).toNat ((rd l0 x6_1) == (wrap64 (bt a1 x8_2)))) (wrap64 (x8_2 - 1))) else (none)) else (none))) else (if 0 ≤ x8_2 then (if x8_2 < (x7_2.length : Int) then (spec_l2Rest.l1 k2 l0 a1 x5_1 x6_1 (x7_2.set (x8_2 : Int).toNat false) (wrap64 (x8_2 - 1))) else (none)) else (none))) = some r := by rw [← hbq51] at H; exact H
                   have Nbq51 := am_ hbq51
                   clear hbq51
                   by_cases c52 : bq51 = true
                   ·subst c52
                    have H1 : (if (rd l0 x6_1) = (-2) then (if 0 ≤ x8_2 then (if x8_2 < (x7_2.length : Int) then (spec_l2Rest.l1 k2 l0 a1 x5_1 x6_1 (x7_2.set (x8_2 : Int).toNat true) (wrap64 (x8_2 - 1))) else (none)) else (none)) else (if 0 ≤ x8_2 then (if x8_2 < (x7_2.length : Int) then (spec_l2Rest.l1 k2 l0 a1 x5_1 x6_1 (x7_2.set (x8_2 : Int).toNat ((rd l0 x6_1) == (wrap64 (bt a1 x8_2)))) (wrap64 (x8_2 - 1))) else (none)) else (none))) = some r := by rw [if_pos rfl] at H; exact H
                    clear H
                    have H := H1
                    clear H1
                    by_cases c53 : (rd l0 x6_1) = (-2)
                    ·rw [if_pos c53] at H
                     have c53b0 : ((rd l0 x6_1) == (-2)) = true := beq_iff_eq.mpr c53
                     have c53b1 : ((rd l0 x6_1) != (-2)) = false := bne_eq_false_iff_eq.mpr c53
                     clear c53
                     by_cases c54 : 0 ≤ x8_2
                     ·rw [if_pos c54] at H
                      have c54b0 : decide (0 ≤ x8_2) = true := decide_eq_true c54
                      clear c54
                      by_cases c55 : x8_2 < (x7_2.length : Int)
                      ·rw [if_pos c55] at H
                       have c55b0 : decide (x8_2 < (x7_2.length : Int)) = true := decide_eq_true c55
                       clear c55
                       obtain ⟨y1016, hy1016⟩ : ∃ y_ : List Bool, y_ = (x7_2.set (x8_2 : Int).toNat true) := ⟨_, rfl⟩
                       replace H : (spec_l2Rest.l1 k2 l0 a1 x5_1 x6_1 y1016 (wrap64 (x8_2 - 1))) = some r := by first | (rw [hy1016]; with_reducible exact H) | (have H2_ := (Option.bind_some _ _).symm.trans H; rw [hy1016]; with_reducible exact H2_) | (have H2_ := (Option.bind_some _ _).symm.trans H; with_reducible exact H2_) | with_reducible exact H | (rw [hy1016]; exact H) | exact H
                       have Ny1016 := am_ hy1016
                       clear hy1016
                       have H' := am_ H
                       clear H
                       have p1008 : 0 ≤ (x6_1 : Int) := od_
                       have q1008 : x6_1 < (l0.length : Int) := od_
                       obtain ⟨ad1008, e1008, hx1008_0⟩ := Kd.at_int HR0.out x6_1 p1008 q1008
                       cases e1008
                       replace hx1008_0 := kp_ HB hx1008_0
                       replace p1008 := eq_true p1008
                       replace q1008 := eq_true q1008
                       try go_wp2
                       have n0_ := am_ (Kd.R_drew HO_5.out)
                       have n1_ := am_ (Kd.R_drew HO_7.out)
                       have n2_ := am_ (below_drew1 HB.out)
                       clear HO_5
                       clear HO_7
                       clear HB
                       have HO_5 := n0_
                       have HO_7 := n1_
                       have HB := n2_
                       clear n0_ n1_ n2_
                       obtain ⟨Ao58, co58, eo58⟩ := Kd.R_slice HO_5.out
                       (first | subst eo58 | (injection eo58 with f1_ f2_ f3_; have f4_ := f1_.symm; have f5_ := f3_.symm; clear f1_ f2_ f3_; subst f4_; subst f5_))
                       have p1014 : 0 ≤ ((ji48) : Int) := od_
                       have q1014 : (ji48) < (x5_1.length : Int) := od_
                       obtain ⟨ad1014, e1014, hx1014_0⟩ := Kd.at_bool (Kd.R_reads' HO_5.out).2.2 (ji48) p1014 q1014
                       (try rw [← Nbq51.out] at hx1014_0)
                       cases e1014
                       replace p1014 := eq_true p1014
                       replace q1014 := eq_true q1014
                       have p1015 : 0 ≤ (x6_1 : Int) := od_
                       have q1015 : x6_1 < (l0.length : Int) := od_
                       obtain ⟨ad1015, e1015, hx1015_0⟩ := Kd.at_int HR0.out x6_1 p1015 q1015
                       have hw1015_0 := hx1015_0
                       obtain rfl : ad1008 = ad1015 := (by injection e1015)
                       replace hx1015_0 := kp_ HB hx1015_0
                       replace p1015 := eq_true p1015
                       replace q1015 := eq_true q1015
                       have p56 : 0 ≤ (x8_2 : Int) := od_
                       have q56 : (x8_2 : Int) < ((x7_2.length : Int) : Int) := od_
                       obtain ⟨go56, co56, eo56, gb56, gl56, cl56, HG56⟩ := Kd.R_form HO_7.out (by omega)
                       (first | cases eo56 | (injection eo56 with ea_ en_ ec_; (first | subst ea_ | (injection ea_ with ea_; subst ea_)); subst ec_; clear en_))
                       have GB56 := am_ gb56
                       have GG56 := am_ HG56
                       clear gb56 gl56 HG56
                       obtain ⟨hx56_0, hf56_0⟩ := Kd.R_celln false HO_7.out (x8_2 : Int) p56 q56
                       replace p56 := eq_true p56
                       replace q56 := eq_true q56
                       have HP59 := Kd.R_putn HO_7.out (x8_2 : Int) true
                       rw [← Ny1016.out] at HP59
                       have HQ59 := am_ HP59
                       clear HP59
                       refine start_ (n := 33) (S := fun w' => w'.cell? (ad1014.add ((ji48)).toNat) = some (.bool true) ∧ w'.cell? (ad1008.add (x6_1).toNat) = some (.int .i64 (rd l0 x6_1))) (ds := [32]) (bz 33 0) (by kernel_rfl) rfl rfl ⟨hx1014_0, (kp_ HB hw1015_0 :)⟩ (fun hHeld => ?_); refine with_tabW spec_l2Rest.tab12 spec_l2Rest.bits12 (fun HT_ HW_ => ?_)
                       generalize wr.drew = w57 at HO_5 HO_7 HB GG56 HQ59 hf56_0 hx1014_0 hx1015_0 hx56_0 hHeld ⊢
                       refine pz_ 0 59 1 ?_
                       refine pz_ 1 60 3 ?_
                       refine pz_ 2 61 7 ?_
                       refine pz_ 3 62 15 ?_
                       refine pz_ 4 63 31 ?_
                       refine pz_ 5 64 63 ?_
                       refine pz_ 6 65 127 ?_
                       refine pz_ 7 66 255 ?_
                       refine pz_ 8 67 511 ?_
                       refine pz_ 9 68 1023 ?_
                       refine pz_ 10 69 2047 ?_
                       refine tz_ 11 70 4095 ?_
                       refine pz_ 12 71 8191 ?_
                       refine pz_ 13 72 16383 ?_
                       refine pz_ 14 73 32767 ?_
                       refine pz_ 15 74 65535 ?_
                       refine pz_ 16 75 131071 ?_
                       refine tz_ 17 76 262143 ?_
                       refine pz_ 18 77 524287 ?_
                       refine pz_ 19 78 1048575 ?_
                       refine uz_ 20 79 2097151 ?_
                       refine uz_ 21 80 4194303 ?_
                       refine uz_ 22 81 8388607 ?_
                       refine uz_ 23 82 16777215 ?_
                       refine uz_ 24 83 33554431 ?_
                       refine uz_ 25 84 67108863 ?_
                       refine uz_ 26 85 134217727 ?_
                       refine uz_ 27 86 268435455 ?_
                       refine uz_ 28 87 536870911 ?_
                       refine pz_ 29 88 1073741823 ?_
                       refine pz_ 30 89 2147483647 ?_
                       refine pz_ 31 90 4294967295 ?_
                       refine last_ (i := 32) (N := none) (bz 33 8589934591) rfl rfl (one_of HT_.out (by kernel_rfl)) (by decide) (fun K hK => ?_)
                       refine skip_ (w1 := ?_) (by rfl) rfl ?_ ?_
                       rotate_left
                       ·go_simp
                        rfl
                       refine hK.out _ _ ?_
                       clear hK K
                       refine done_ (done_of HT_.out (by kernel_rfl)) ?_
                       try go_wp2
                       go_roundg k2
                       case measure => have := HK1.out; have := HK2.out; omega
                       case rel => exact ⟨(y1016), (wrap64 (x8_2 - 1)), rs_, H', ⟨by have := HK1.out; have := HK2.out; omega⟩, ⟨by (with_reducible repeat (first | apply Kd.R_alloc | apply Kd.R_drewN | apply Kd.R_drew)); exact Kd.R_mono (Kd.R_far (p := ⟨go56, (x8_2 : Int).toNat, none⟩) (Kd.R_mono HO_5.out (fun k_ hk => (⟨hk, fun e_ => hk (by rw [e_]; rfl)⟩ : _ ∧ k_ ≠ go56))) (fun _ hk => hk.2) (.bool true)) (fun _ hk => hk.1)⟩, ⟨ro_ HQ59⟩, ⟨bg_⟩⟩
                      ·rw [if_neg c55] at H
                       exact absurd H (by simp)
                     ·rw [if_neg c54] at H
                      exact absurd H (by simp)
                    ·rw [if_neg c53] at H
                     have c53b0 : ((rd l0 x6_1) == (-2)) = false := beq_eq_false_iff_ne.mpr c53
                     have c53b1 : ((rd l0 x6_1) != (-2)) = true := bne_iff_ne.mpr c53
                     by_cases c60 : 0 ≤ x8_2
                     ·rw [if_pos c60] at H
                      have c60b0 : decide (0 ≤ x8_2) = true := decide_eq_true c60
                      clear c60
                      by_cases c62 : x8_2 < (x7_2.length : Int)
                      ·rw [if_pos c62] at H
                       have c62b0 : decide (x8_2 < (x7_2.length : Int)) = true := decide_eq_true c62
                       clear c62
                       obtain ⟨y1018, hy1018⟩ : ∃ y_ : List Bool, y_ = (x7_2.set (x8_2 : Int).toNat ((rd l0 x6_1) == (wrap64 (bt a1 x8_2)))) := ⟨_, rfl⟩
                       replace H : (spec_l2Rest.l1 k2 l0 a1 x5_1 x6_1 y1018 (wrap64 (x8_2 - 1))) = some r := by first | (rw [hy1018]; with_reducible exact H) | (have H2_ := (Option.bind_some _ _).symm.trans H; rw [hy1018]; with_reducible exact H2_) | (have H2_ := (Option.bind_some _ _).symm.trans H; with_reducible exact H2_) | with_reducible exact H | (rw [hy1018]; exact H) | exact H
                       have Ny1018 := am_ hy1018
                       clear hy1018
                       have H' := am_ H
                       clear H
                       have p1008 : 0 ≤ (x6_1 : Int) := od_
                       have q1008 : x6_1 < (l0.length : Int) := od_
                       obtain ⟨ad1008, e1008, hx1008_0⟩ := Kd.at_int HR0.out x6_1 p1008 q1008
                       cases e1008
                       replace hx1008_0 := kp_ HB hx1008_0
                       replace p1008 := eq_true p1008
                       replace q1008 := eq_true q1008
                       try go_wp2
                       have n0_ := am_ (Kd.R_drew HO_5.out)
                       have n1_ := am_ (Kd.R_drew HO_7.out)
                       have n2_ := am_ (below_drew1 HB.out)
                       clear HO_5
                       clear HO_7
                       clear HB
                       have HO_5 := n0_
                       have HO_7 := n1_
                       have HB := n2_
                       clear n0_ n1_ n2_
                       obtain ⟨Ao65, co65, eo65⟩ := Kd.R_slice HO_5.out
                       (first | subst eo65 | (injection eo65 with f1_ f2_ f3_; have f4_ := f1_.symm; have f5_ := f3_.symm; clear f1_ f2_ f3_; subst f4_; subst f5_))
                       have p1014 : 0 ≤ ((ji48) : Int) := od_
                       have q1014 : (ji48) < (x5_1.length : Int) := od_
                       obtain ⟨ad1014, e1014, hx1014_0⟩ := Kd.at_bool (Kd.R_reads' HO_5.out).2.2 (ji48) p1014 q1014
                       (try rw [← Nbq51.out] at hx1014_0)
                       cases e1014
                       replace p1014 := eq_true p1014
                       replace q1014 := eq_true q1014
                       have p1015 : 0 ≤ (x6_1 : Int) := od_
                       have q1015 : x6_1 < (l0.length : Int) := od_
                       obtain ⟨ad1015, e1015, hx1015_0⟩ := Kd.at_int HR0.out x6_1 p1015 q1015
                       have hw1015_0 := hx1015_0
                       obtain rfl : ad1008 = ad1015 := (by injection e1015)
                       replace hx1015_0 := kp_ HB hx1015_0
                       replace p1015 := eq_true p1015
                       replace q1015 := eq_true q1015
                       have p1017 : 0 ≤ (x6_1 : Int) := od_
                       have q1017 : x6_1 < (l0.length : Int) := od_
                       obtain ⟨ad1017, e1017, hx1017_0⟩ := Kd.at_int HR0.out x6_1 p1017 q1017
                       have hw1017_0 := hx1017_0
                       obtain rfl : ad1008 = ad1017 := (by injection e1017)
                       replace hx1017_0 := kp_ HB hx1017_0
                       replace p1017 := eq_true p1017
                       replace q1017 := eq_true q1017
                       have p61 : 0 ≤ (x8_2 : Int) := od_
                       have q61 : x8_2 < (a1.size : Int) := od_
                       have hx61 := bt_at a1 x8_2
                       replace p61 := eq_true p61
                       replace q61 := eq_true q61
                       have p63 : 0 ≤ (x8_2 : Int) := od_
                       have q63 : (x8_2 : Int) < ((x7_2.length : Int) : Int) := od_
                       obtain ⟨go63, co63, eo63, gb63, gl63, cl63, HG63⟩ := Kd.R_form HO_7.out (by omega)
                       (first | cases eo63 | (injection eo63 with ea_ en_ ec_; (first | subst ea_ | (injection ea_ with ea_; subst ea_)); subst ec_; clear en_))
                       have GB63 := am_ gb63
                       have GG63 := am_ HG63
                       clear gb63 gl63 HG63
                       obtain ⟨hx63_0, hf63_0⟩ := Kd.R_celln false HO_7.out (x8_2 : Int) p63 q63
                       replace p63 := eq_true p63
                       replace q63 := eq_true q63
                       have HP66 := Kd.R_putn HO_7.out (x8_2 : Int) ((rd l0 x6_1) == (wrap64 (bt a1 x8_2)))
                       rw [← Ny1018.out] at HP66
                       have HQ66 := am_ HP66
                       clear HP66
                       refine start_ (n := 33) (S := fun w' => w'.cell? (ad1014.add ((ji48)).toNat) = some (.bool true) ∧ w'.cell? (ad1008.add (x6_1).toNat) = some (.int .i64 (rd l0 x6_1)) ∧ w'.cell? (ad1008.add (x6_1).toNat) = some (.int .i64 (rd l0 x6_1))) (ds := [32]) (bz 33 0) (by kernel_rfl) rfl rfl ⟨hx1014_0, (kp_ HB hw1015_0 :), (kp_ HB hw1017_0 :)⟩ (fun hHeld => ?_); refine with_tabW spec_l2Rest.tab12 spec_l2Rest.bits12 (fun HT_ HW_ => ?_)
                       generalize wr.drew = w64 at HO_5 HO_7 HB GG63 HQ66 hf63_0 hx1014_0 hx1015_0 hx1017_0 hx63_0 hHeld ⊢
                       refine pz_ 0 59 1 ?_
                       refine pz_ 1 60 3 ?_
                       refine pz_ 2 61 7 ?_
                       refine pz_ 3 62 15 ?_
                       refine pz_ 4 63 31 ?_
                       refine pz_ 5 64 63 ?_
                       refine pz_ 6 65 127 ?_
                       refine pz_ 7 66 255 ?_
                       refine pz_ 8 67 511 ?_
                       refine pz_ 9 68 1023 ?_
                       refine pz_ 10 69 2047 ?_
                       refine tz_ 11 70 4095 ?_
                       refine pz_ 12 71 8191 ?_
                       refine pz_ 13 72 16383 ?_
                       refine pz_ 14 73 32767 ?_
                       refine pz_ 15 74 65535 ?_
                       refine pz_ 16 75 131071 ?_
                       refine tz_ 17 76 262143 ?_
                       refine pz_ 18 77 524287 ?_
                       refine pz_ 19 78 1048575 ?_
                       refine pz_ 20 79 2097151 ?_
                       refine pz_ 21 80 4194303 ?_
                       refine pz_ 22 81 8388607 ?_
                       refine pz_ 24 83 25165823 ?_
                       refine pz_ 25 84 58720255 ?_
                       refine tz_ 23 82 67108863 ?_
                       refine tz_ 26 85 134217727 ?_
                       refine pz_ 27 86 268435455 ?_
                       refine pz_ 28 87 536870911 ?_
                       refine pz_ 29 88 1073741823 ?_
                       refine pz_ 30 89 2147483647 ?_
                       refine pz_ 31 90 4294967295 ?_
                       refine last_ (i := 32) (N := none) (bz 33 8589934591) rfl rfl (one_of HT_.out (by kernel_rfl)) (by decide) (fun K hK => ?_)
                       refine skip_ (w1 := ?_) (by rfl) rfl ?_ ?_
                       rotate_left
                       ·go_simp
                        rfl
                       refine hK.out _ _ ?_
                       clear hK K
                       refine done_ (done_of HT_.out (by kernel_rfl)) ?_
                       try go_wp2
                       go_roundg k2
                       case measure => have := HK1.out; have := HK2.out; omega
                       case rel => exact ⟨(y1018), (wrap64 (x8_2 - 1)), rs_, H', ⟨by have := HK1.out; have := HK2.out; omega⟩, ⟨by (with_reducible repeat (first | apply Kd.R_alloc | apply Kd.R_drewN | apply Kd.R_drew)); exact Kd.R_mono (Kd.R_far (p := ⟨go63, (x8_2 : Int).toNat, none⟩) (Kd.R_mono HO_5.out (fun k_ hk => (⟨hk, fun e_ => hk (by rw [e_]; rfl)⟩ : _ ∧ k_ ≠ go63))) (fun _ hk => hk.2) (.bool ((rd l0 x6_1) == (wrap64 (bt a1 x8_2))))) (fun _ hk => hk.1)⟩, ⟨ro_ HQ66⟩, ⟨bg_⟩⟩
                      ·rw [if_neg c62] at H
                       exact absurd H (by simp)
                     ·rw [if_neg c60] at H
                      exact absurd H (by simp)
                   ·replace c52 := Bool.eq_false_iff.mpr c52
                    subst c52
                    have H1 : (if 0 ≤ x8_2 then (if x8_2 < (x7_2.length : Int) then (spec_l2Rest.l1 k2 l0 a1 x5_1 x6_1 (x7_2.set (x8_2 : Int).toNat false) (wrap64 (x8_2 - 1))) else (none)) else (none)) = some r := by rw [if_neg (show ¬ (false = true) by decide)] at H; exact H
                    clear H
                    have H := H1
                    clear H1
                    by_cases c67 : 0 ≤ x8_2
                    ·rw [if_pos c67] at H
                     have c67b0 : decide (0 ≤ x8_2) = true := decide_eq_true c67
                     clear c67
                     by_cases c68 : x8_2 < (x7_2.length : Int)
                     ·rw [if_pos c68] at H
                      have c68b0 : decide (x8_2 < (x7_2.length : Int)) = true := decide_eq_true c68
                      clear c68
                      obtain ⟨y1019, hy1019⟩ : ∃ y_ : List Bool, y_ = (x7_2.set (x8_2 : Int).toNat false) := ⟨_, rfl⟩
                      replace H : (spec_l2Rest.l1 k2 l0 a1 x5_1 x6_1 y1019 (wrap64 (x8_2 - 1))) = some r := by first | (rw [hy1019]; with_reducible exact H) | (have H2_ := (Option.bind_some _ _).symm.trans H; rw [hy1019]; with_reducible exact H2_) | (have H2_ := (Option.bind_some _ _).symm.trans H; with_reducible exact H2_) | with_reducible exact H | (rw [hy1019]; exact H) | exact H
                      have Ny1019 := am_ hy1019
                      clear hy1019
                      have H' := am_ H
                      clear H
                      have p1008 : 0 ≤ (x6_1 : Int) := od_
                      have q1008 : x6_1 < (l0.length : Int) := od_
                      obtain ⟨ad1008, e1008, hx1008_0⟩ := Kd.at_int HR0.out x6_1 p1008 q1008
                      cases e1008
                      replace hx1008_0 := kp_ HB hx1008_0
                      replace p1008 := eq_true p1008
                      replace q1008 := eq_true q1008
                      try go_wp2
                      have n0_ := am_ (Kd.R_drew HO_5.out)
                      have n1_ := am_ (Kd.R_drew HO_7.out)
                      have n2_ := am_ (below_drew1 HB.out)
                      clear HO_5
                      clear HO_7
                      clear HB
                      have HO_5 := n0_
                      have HO_7 := n1_
                      have HB := n2_
                      clear n0_ n1_ n2_
                      obtain ⟨Ao71, co71, eo71⟩ := Kd.R_slice HO_5.out
                      (first | subst eo71 | (injection eo71 with f1_ f2_ f3_; have f4_ := f1_.symm; have f5_ := f3_.symm; clear f1_ f2_ f3_; subst f4_; subst f5_))
                      have p1014 : 0 ≤ ((ji48) : Int) := od_
                      have q1014 : (ji48) < (x5_1.length : Int) := od_
                      obtain ⟨ad1014, e1014, hx1014_0⟩ := Kd.at_bool (Kd.R_reads' HO_5.out).2.2 (ji48) p1014 q1014
                      (try rw [← Nbq51.out] at hx1014_0)
                      cases e1014
                      replace p1014 := eq_true p1014
                      replace q1014 := eq_true q1014
                      have p69 : 0 ≤ (x8_2 : Int) := od_
                      have q69 : (x8_2 : Int) < ((x7_2.length : Int) : Int) := od_
                      obtain ⟨go69, co69, eo69, gb69, gl69, cl69, HG69⟩ := Kd.R_form HO_7.out (by omega)
                      (first | cases eo69 | (injection eo69 with ea_ en_ ec_; (first | subst ea_ | (injection ea_ with ea_; subst ea_)); subst ec_; clear en_))
                      have GB69 := am_ gb69
                      have GG69 := am_ HG69
                      clear gb69 gl69 HG69
                      obtain ⟨hx69_0, hf69_0⟩ := Kd.R_celln false HO_7.out (x8_2 : Int) p69 q69
                      replace p69 := eq_true p69
                      replace q69 := eq_true q69
                      have HP72 := Kd.R_putn HO_7.out (x8_2 : Int) false
                      rw [← Ny1019.out] at HP72
                      have HQ72 := am_ HP72
                      clear HP72
                      refine start_ (n := 33) (S := fun w' => w'.cell? (ad1014.add ((ji48)).toNat) = some (.bool false)) (ds := [32]) (bz 33 0) (by kernel_rfl) rfl rfl (hx1014_0) (fun hHeld => ?_); refine with_tabW spec_l2Rest.tab12 spec_l2Rest.bits12 (fun HT_ HW_ => ?_)
                      generalize wr.drew = w70 at HO_5 HO_7 HB GG69 HQ72 hf69_0 hx1014_0 hx69_0 hHeld ⊢
                      refine pz_ 0 59 1 ?_
                      refine pz_ 1 60 3 ?_
                      refine pz_ 2 61 7 ?_
                      refine pz_ 3 62 15 ?_
                      refine pz_ 4 63 31 ?_
                      refine pz_ 5 64 63 ?_
                      refine pz_ 6 65 127 ?_
                      refine pz_ 7 66 255 ?_
                      refine pz_ 8 67 511 ?_
                      refine pz_ 9 68 1023 ?_
                      refine pz_ 10 69 2047 ?_
                      refine tz_ 11 70 4095 ?_
                      refine pz_ 12 71 8191 ?_
                      refine pz_ 13 72 16383 ?_
                      refine uz_ 14 73 32767 ?_
                      refine uz_ 15 74 65535 ?_
                      refine uz_ 16 75 131071 ?_
                      refine uz_ 17 76 262143 ?_
                      refine uz_ 18 77 524287 ?_
                      refine uz_ 19 78 1048575 ?_
                      refine uz_ 20 79 2097151 ?_
                      refine uz_ 21 80 4194303 ?_
                      refine uz_ 22 81 8388607 ?_
                      refine uz_ 23 82 16777215 ?_
                      refine uz_ 24 83 33554431 ?_
                      refine uz_ 25 84 67108863 ?_
                      refine uz_ 26 85 134217727 ?_
                      refine uz_ 27 86 268435455 ?_
                      refine uz_ 28 87 536870911 ?_
                      refine uz_ 29 88 1073741823 ?_
                      refine pz_ 30 89 2147483647 ?_
                      refine pz_ 31 90 4294967295 ?_
                      refine last_ (i := 32) (N := none) (bz 33 8589934591) rfl rfl (one_of HT_.out (by kernel_rfl)) (by decide) (fun K hK => ?_)
                      refine skip_ (w1 := ?_) (by rfl) rfl ?_ ?_
                      rotate_left
                      ·go_simp
                       rfl
                      refine hK.out _ _ ?_
                      clear hK K
                      refine done_ (done_of HT_.out (by kernel_rfl)) ?_
                      try go_wp2
                      go_roundg k2
                      case measure => have := HK1.out; have := HK2.out; omega
                      case rel => exact ⟨(y1019), (wrap64 (x8_2 - 1)), rs_, H', ⟨by have := HK1.out; have := HK2.out; omega⟩, ⟨by (with_reducible repeat (first | apply Kd.R_alloc | apply Kd.R_drewN | apply Kd.R_drew)); exact Kd.R_mono (Kd.R_far (p := ⟨go69, (x8_2 : Int).toNat, none⟩) (Kd.R_mono HO_5.out (fun k_ hk => (⟨hk, fun e_ => hk (by rw [e_]; rfl)⟩ : _ ∧ k_ ≠ go69))) (fun _ hk => hk.2) (.bool false)) (fun _ hk => hk.1)⟩, ⟨ro_ HQ72⟩, ⟨bg_⟩⟩
                     ·rw [if_neg c68] at H
                      exact absurd H (by simp)
                    ·rw [if_neg c67] at H
                     exact absurd H (by simp)
                  ·rw [if_neg c50] at H
                   exact absurd H (by simp)
                 ·rw [if_neg c49] at H
                  exact absurd H (by simp)
                ·rw [if_neg c47] at H
                 have c47b0 : decide (x8_2 < (a1.size : Int)) = false := decide_eq_false c47
                 clear c47
                 by_cases c73 : 0 ≤ x8_2
                 ·rw [if_pos c73] at H
                  have c73b0 : decide (0 ≤ x8_2) = true := decide_eq_true c73
                  clear c73
                  by_cases c74 : x8_2 < (x7_2.length : Int)
                  ·rw [if_pos c74] at H
                   have c74b0 : decide (x8_2 < (x7_2.length : Int)) = true := decide_eq_true c74
                   clear c74
                   obtain ⟨y1020, hy1020⟩ : ∃ y_ : List Bool, y_ = (x7_2.set (x8_2 : Int).toNat false) := ⟨_, rfl⟩
                   replace H : (spec_l2Rest.l1 k2 l0 a1 x5_1 x6_1 y1020 (wrap64 (x8_2 - 1))) = some r := by first | (rw [hy1020]; with_reducible exact H) | (have H2_ := (Option.bind_some _ _).symm.trans H; rw [hy1020]; with_reducible exact H2_) | (have H2_ := (Option.bind_some _ _).symm.trans H; with_reducible exact H2_) | with_reducible exact H | (rw [hy1020]; exact H) | exact H
                   have Ny1020 := am_ hy1020
                   clear hy1020
                   have H' := am_ H
                   clear H
                   have p1008 : 0 ≤ (x6_1 : Int) := od_
                   have q1008 : x6_1 < (l0.length : Int) := od_
                   obtain ⟨ad1008, e1008, hx1008_0⟩ := Kd.at_int HR0.out x6_1 p1008 q1008
                   cases e1008
                   replace hx1008_0 := kp_ HB hx1008_0
                   replace p1008 := eq_true p1008
                   replace q1008 := eq_true q1008
                   try go_wp2
                   have n0_ := am_ (Kd.R_drew HO_5.out)
                   have n1_ := am_ (Kd.R_drew HO_7.out)
                   have n2_ := am_ (below_drew1 HB.out)
                   clear HO_5
                   clear HO_7
                   clear HB
                   have HO_5 := n0_
                   have HO_7 := n1_
                   have HB := n2_
                   clear n0_ n1_ n2_
                   have p75 : 0 ≤ (x8_2 : Int) := od_
                   have q75 : (x8_2 : Int) < ((x7_2.length : Int) : Int) := od_
                   obtain ⟨go75, co75, eo75, gb75, gl75, cl75, HG75⟩ := Kd.R_form HO_7.out (by omega)
                   (first | cases eo75 | (injection eo75 with ea_ en_ ec_; (first | subst ea_ | (injection ea_ with ea_; subst ea_)); subst ec_; clear en_))
                   have GB75 := am_ gb75
                   have GG75 := am_ HG75
                   clear gb75 gl75 HG75
                   obtain ⟨hx75_0, hf75_0⟩ := Kd.R_celln false HO_7.out (x8_2 : Int) p75 q75
                   replace p75 := eq_true p75
                   replace q75 := eq_true q75
                   have HP77 := Kd.R_putn HO_7.out (x8_2 : Int) false
                   rw [← Ny1020.out] at HP77
                   have HQ77 := am_ HP77
                   clear HP77
                   refine start_ (n := 33) (S := fun w' => True) (ds := [32]) (bz 33 0) (by kernel_rfl) rfl rfl trivial (fun hHeld => ?_); refine with_tabW spec_l2Rest.tab12 spec_l2Rest.bits12 (fun HT_ HW_ => ?_)
                   generalize wr.drew = w76 at HO_5 HO_7 HB GG75 HQ77 hf75_0 hx75_0 hHeld ⊢
                   refine pz_ 0 59 1 ?_
                   refine pz_ 1 60 3 ?_
                   refine pz_ 2 61 7 ?_
                   refine pz_ 3 62 15 ?_
                   refine pz_ 4 63 31 ?_
                   refine pz_ 5 64 63 ?_
                   refine pz_ 6 65 127 ?_
                   refine uz_ 7 66 255 ?_
                   refine uz_ 8 67 511 ?_
                   refine uz_ 9 68 1023 ?_
                   refine uz_ 10 69 2047 ?_
                   refine uz_ 11 70 4095 ?_
                   refine pz_ 12 71 8191 ?_
                   refine pz_ 13 72 16383 ?_
                   refine uz_ 14 73 32767 ?_
                   refine uz_ 15 74 65535 ?_
                   refine uz_ 16 75 131071 ?_
                   refine uz_ 17 76 262143 ?_
                   refine uz_ 18 77 524287 ?_
                   refine uz_ 19 78 1048575 ?_
                   refine uz_ 20 79 2097151 ?_
                   refine uz_ 21 80 4194303 ?_
                   refine uz_ 22 81 8388607 ?_
                   refine uz_ 23 82 16777215 ?_
                   refine uz_ 24 83 33554431 ?_
                   refine uz_ 25 84 67108863 ?_
                   refine uz_ 26 85 134217727 ?_
                   refine uz_ 27 86 268435455 ?_
                   refine uz_ 28 87 536870911 ?_
                   refine uz_ 29 88 1073741823 ?_
                   refine pz_ 30 89 2147483647 ?_
                   refine pz_ 31 90 4294967295 ?_
                   refine last_ (i := 32) (N := none) (bz 33 8589934591) rfl rfl (one_of HT_.out (by kernel_rfl)) (by decide) (fun K hK => ?_)
                   refine skip_ (w1 := ?_) (by rfl) rfl ?_ ?_
                   rotate_left
                   ·go_simp
                    rfl
                   refine hK.out _ _ ?_
                   clear hK K
                   refine done_ (done_of HT_.out (by kernel_rfl)) ?_
                   try go_wp2
                   go_roundg k2
                   case measure => have := HK1.out; have := HK2.out; omega
                   case rel => exact ⟨(y1020), (wrap64 (x8_2 - 1)), rs_, H', ⟨by have := HK1.out; have := HK2.out; omega⟩, ⟨by (with_reducible repeat (first | apply Kd.R_alloc | apply Kd.R_drewN | apply Kd.R_drew)); exact Kd.R_mono (Kd.R_far (p := ⟨go75, (x8_2 : Int).toNat, none⟩) (Kd.R_mono HO_5.out (fun k_ hk => (⟨hk, fun e_ => hk (by rw [e_]; rfl)⟩ : _ ∧ k_ ≠ go75))) (fun _ hk => hk.2) (.bool false)) (fun _ hk => hk.1)⟩, ⟨ro_ HQ77⟩, ⟨bg_⟩⟩
                  ·rw [if_neg c74] at H
                   exact absurd H (by simp)
                 ·rw [if_neg c73] at H
                  exact absurd H (by simp)
              ·rw [if_neg c21] at H
               exact absurd H (by simp)
             ·rw [if_neg c20] at H
              exact absurd H (by simp)
            ·rw [if_neg c19] at H
             have c19b0 : decide (0 ≤ x8_2) = false := decide_eq_false c19
             clear c19
             have H' := am_ H
             clear H
             go_wp2
             go_roundg k2
             case measure => have := HK1.out; have := HK2.out; omega
             case rel => exact ⟨(x7_2), (wrap64 (x6_1 - 1)), rs_, H', ⟨by have := HK1.out; have := HK2.out; omega⟩, ⟨by (with_reducible repeat (first | apply Kd.R_alloc | apply Kd.R_drewN | apply Kd.R_drew)); exact Kd.R_mono HO_7.out (fun _ hk => trivial)⟩, ⟨bl_⟩⟩
         ·rw [if_neg c16] at H
          exact absurd H (by simp)
        ·rw [if_neg c15] at H
         exact absurd H (by simp)
       ·rw [if_neg c13] at H
        have c13b0 : decide (0 ≤ x6_1) = false := decide_eq_false c13
        clear c13
        obtain rfl := Option.some.inj H
        go_wp2
        go_ret
        exact ⟨_, by first | rfl | (simp [errW_none, errW_some] <;> rfl) | (simp only [← hji3]; first | rfl | (simp [errW_none, errW_some] <;> rfl)) | (simp [*, errW_none, errW_some] <;> rfl) | (simp [*, Go.Proofs.Ytnnlgbpfdnaalaa.Gt.nil_bne]; done), by (with_reducible repeat (first | apply Kd.R_alloc | apply Kd.R_drewN | apply Kd.R_drew)); exact HO_5.out, bl_⟩
    ·rw [if_neg c7] at H
     exact absurd H (by simp)
   ·rw [if_neg c6] at H
    exact absurd H (by simp)
  ·rw [if_neg c5] at H
   exact absurd H (by simp)
 ·rw [if_neg c4] at H
  exact absurd H (by simp)

end Go.Proofs.Ytnnlgbpfdnaalaa.Pr
