/- Functions of the given program as plain Lean functions, and that the machine's calls come to them; written by a program of this session; no condition but those that each theorem states. -/
import Derived.Test.YtbejcmfpmoaddaaShelf
import Derived.Test.YtbejcmfpmoaddaaPrx0
import Derived.Test.YtbejcmfpmoaddaaPrxg40683n1
namespace Go.Proofs.Ytbejcmfpmoaddaa.Pr
open Go.RowKit Go.Proofs.YtbejcmfpmoaddaaW.PrintWords Go.Proofs.YtbejcmfpmoaddaaW.PrintLast Go.Proofs.YtbejcmfpmoaddaaW.PrintMore
attribute [local go_sem] max2_int min2_int max_two min_two max_three min_three max_four min_four   -- for this text's walks alone
set_option linter.unusedVariables false
set_option linter.unusedSimpArgs false

/-! ### spec_l4Fill: function 20 -/
def spec_l4Fill.l0 : Nat → ByteArray → List ByteArray → ByteArray → Int → Option (ByteArray)
 | 0, _, _, _, _ => none
 | k + 1, x0, x1, x5, x6 => if x6 < (x0.size : Int) then (if 0 ≤ x6 then (if (bt x0 x6) = 36 then (if 0 ≤ (wrap64 (x6 + 1)) then (if (wrap64 (x6 + 1)) < (x0.size : Int) then (if (bt x0 (wrap64 (x6 + 1))) = 36 then (if x5.size + 1 ≤ 9223372036854775807 then (spec_l4Fill.l0 k x0 x1 (x5 ++ (⟨#[36]⟩ : ByteArray)) (wrap64 ((wrap64 (x6 + 1)) + 1))) else (none)) else (if (((bt x0 (wrap64 (x6 + 1))) - 49) % 256) < (x1.length : Int) then (if 0 ≤ (((bt x0 (wrap64 (x6 + 1))) - 49) % 256) then (if x5.size + (rdOf ByteArray.empty x1 (((bt x0 (wrap64 (x6 + 1))) - 49) % 256)).size ≤ 9223372036854775807 then (spec_l4Fill.l0 k x0 x1 (x5 ++ (rdOf ByteArray.empty x1 (((bt x0 (wrap64 (x6 + 1))) - 49) % 256))) (wrap64 ((wrap64 (x6 + 1)) + 1))) else (none)) else (none)) else (spec_l4Fill.l0 k x0 x1 x5 (wrap64 ((wrap64 (x6 + 1)) + 1))))) else (none)) else (none)) else (if x6 ≤ (wrap64 (x6 + 1)) then (if (wrap64 (x6 + 1)) ≤ (x0.size : Int) then (if x5.size + (x0.extract (x6 : Int).toNat ((wrap64 (x6 + 1)) : Int).toNat).size ≤ 9223372036854775807 then (spec_l4Fill.l0 k x0 x1 (x5 ++ (x0.extract (x6 : Int).toNat ((wrap64 (x6 + 1)) : Int).toNat)) (wrap64 (x6 + 1))) else (none)) else (none)) else (none))) else (none)) else (some x5)
def spec_l4Fill.f (k : Nat) (a0 : ByteArray) (l1 : List ByteArray) : Option (ByteArray) := spec_l4Fill.l0 k a0 l1 (⟨#[]⟩ : ByteArray) 0
theorem spec_l4Fill.mono_l : ∀ k, (∀ y0 y1 y2 y3, LeO (spec_l4Fill.l0 k y0 y1 y2 y3) (spec_l4Fill.l0 (k + 1) y0 y1 y2 y3))
 | 0 => fun _ _ _ _ r h => by simp [spec_l4Fill.l0] at h
 | k + 1 => by
  have ih0 := spec_l4Fill.mono_l k
  ·intro y0 y1 y2 y3
   unfold spec_l4Fill.l0
   repeat' first
   | with_reducible first | exact ih0 _ _ _ _ | exact LeO.refl _ | exact LeO.none _ | refine LeO.ite ?_ ?_ | refine LeO.bind ?_ (fun _ => ?_)
   | exact ih0 _ _ _ _
   | exact LeO.none _
   | refine LeO.ite ?_ ?_
   | refine LeO.bind ?_ (fun _ => ?_)
theorem spec_l4Fill.mono : ∀ a0 a1 k, LeO (spec_l4Fill.f k a0 a1) (spec_l4Fill.f (k + 1) a0 a1) := by
 intro a0 a1 k
 have ih0 := spec_l4Fill.mono_l k
 unfold spec_l4Fill.f
 repeat' first
   | with_reducible first | exact ih0 _ _ _ _ | exact LeO.refl _ | exact LeO.none _ | refine LeO.ite ?_ ?_ | refine LeO.bind ?_ (fun _ => ?_)
   | exact ih0 _ _ _ _
   | exact LeO.none _
   | refine LeO.ite ?_ ?_
   | refine LeO.bind ?_ (fun _ => ?_)
set_option maxHeartbeats 8000000 in
set_option maxRecDepth 100000 in
theorem spec_l4Fill.calls (k : Nat) (a0 : ByteArray) (A1 : Option Addr) (c1 : Nat) (l1 : List ByteArray) (r : ByteArray) (w : World) (hr1 : Kd.C Kd.string w A1 l1.length l1) (hc1 : l1.length ≤ c1) (h : spec_l4Fill.f k a0 l1 = some r) :
  Calls Try.prog 20 #[.string a0, .slice A1 l1.length c1] w fun e w' => e = .returned (.string r) ∧ Drawn0 w w' := by
 have HR1 := am_ hr1
 have HC1 := am_ hc1
 clear hr1 hc1
 have H : (spec_l4Fill.l0 k a0 l1 (⟨#[]⟩ : ByteArray) 0) = some r := h
 clear h
 have H' := am_ H
 clear H
 go_enter Try.func20, Try.ntmps20
 go_wp2
 go_loopg [5, 6] k (fun kq v5 v6 w' => ∃ (x5_1 : ByteArray) (x6_1 : Int), v5 = .string x5_1 ∧ v6 = .int .i64 x6_1 ∧ Aside0 (spec_l4Fill.l0 kq a0 l1 x5_1 x6_1 = some r) ∧ Aside0 (kq ≤ k) ∧ Drawn0 w w')
 case atStart => exact ⟨((⟨#[]⟩ : ByteArray)), (0), rs_, rs_, H', ⟨Nat.le_refl _⟩, by repeat (first | exact Drawn0.refl _ | apply Drawn0.step)⟩
 case round =>
  clear H'
  try clear c1
  try clear c2
  try clear p2
  obtain ⟨x5_1, x6_1, rfl, rfl, HA, HK1, ⟨m1, rfl⟩⟩ := hrel
  cases gk with
  | zero => exact absurd HA.out (by simp [spec_l4Fill.l0])
  | succ k1 =>
   have H := HA.out
   clear HA
   simp only [spec_l4Fill.l0] at H
   by_cases c3 : x6_1 < (a0.size : Int)
   ·rw [if_pos c3] at H
    have c3b0 : decide (x6_1 < (a0.size : Int)) = true := decide_eq_true c3
    clear c3
    by_cases c4 : 0 ≤ x6_1
    ·rw [if_pos c4] at H
     have c4b0 : decide (0 ≤ x6_1) = true := decide_eq_true c4
     clear c4
     by_cases c6 : (bt a0 x6_1) = 36
     ·rw [if_pos c6] at H
      have c6b0 : ((bt a0 x6_1) == 36) = true := beq_iff_eq.mpr c6
      have c6b1 : ((bt a0 x6_1) != 36) = false := bne_eq_false_iff_eq.mpr c6
      clear c6
      obtain ⟨ji7, hji7⟩ : ∃ j_ : Int, (wrap64 (x6_1 + 1)) = j_ := ⟨_, rfl⟩
      replace H : (if 0 ≤ (ji7) then (if (ji7) < (a0.size : Int) then (if (bt a0 (ji7)) = 36 then (if x5_1.size + 1 ≤ 9223372036854775807 then (spec_l4Fill.l0 k1 a0 l1 (x5_1 ++ (⟨#[36]⟩ : ByteArray)) (wrap64 ((ji7) + 1))) else (none)) else (if (((bt a0 (ji7)) - 49) % 256) < (l1.length : Int) then (if 0 ≤ (((bt a0 (ji7)) - 49) % 256) then (if x5_1.size + (rdOf ByteArray.empty l1 (((bt a0 (ji7)) - 49) % 256)).size ≤ 9223372036854775807 then (spec_l4Fill.l0 k1 a0 l1 (x5_1 ++ (rdOf ByteArray.empty l1 (((bt a0 (ji7)) - 49) % 256))) (wrap64 ((ji7) + 1))) else (none)) else (none)) else (spec_l4Fill.l0 k1 a0 l1 x5_1 (wrap64 ((ji7) + 1))))) else (none)) else (none)) = some r := by first | (rw [hji7] at H; exact H) | (simp only [hji7] at H ⊢; exact H)
      have hji7w : (IntKind.i64.wrap (x6_1 + 1)) = ji7 := (i64_w _).trans hji7
      by_cases c8 : 0 ≤ (ji7)
      ·rw [if_pos c8] at H
       have c8b0 : decide (0 ≤ (ji7)) = true := decide_eq_true c8
       clear c8
       by_cases c9 : (ji7) < (a0.size : Int)
       ·rw [if_pos c9] at H
        have c9b0 : decide ((ji7) < (a0.size : Int)) = true := decide_eq_true c9
        clear c9
        by_cases c11 : (bt a0 (ji7)) = 36
        ·rw [if_pos c11] at H
         have c11b0 : ((bt a0 (ji7)) == 36) = true := beq_iff_eq.mpr c11
         have c11b1 : ((bt a0 (ji7)) != 36) = false := bne_eq_false_iff_eq.mpr c11
         clear c11
         by_cases c12 : x5_1.size + 1 ≤ 9223372036854775807
         ·rw [if_pos c12] at H
          have c12b0 := eq_true c12
          have c12b1 : decide (x5_1.size + 1 ≤ 9223372036854775807) = true := decide_eq_true c12
          try have c12b2 : (9223372036854775807 < x5_1.size + 1) = False := eq_false (Nat.not_lt.2 c12)
          have H' := am_ H
          clear H
          have p5 : 0 ≤ (x6_1 : Int) := od_
          have q5 : x6_1 < (a0.size : Int) := od_
          have hx5 := bt_at a0 x6_1
          replace p5 := eq_true p5
          replace q5 := eq_true q5
          have p10 : 0 ≤ ((ji7) : Int) := od_
          have q10 : (ji7) < (a0.size : Int) := od_
          have hx10 := bt_at a0 (ji7)
          replace p10 := eq_true p10
          replace q10 := eq_true q10
          go_wp2
          go_roundg k1
          case measure => have := HK1.out; omega
          case rel => exact ⟨(x5_1 ++ (⟨#[36]⟩ : ByteArray)), (wrap64 ((ji7) + 1)), rs_, (by first | rfl | (simp; done) | (simp only [← hji7] <;> (first | rfl | simp)) | (simp [*]; done)), (by first | exact H' | (simp only [hji7]; exact H') | (rw [hji7]; exact H')), ⟨by have := HK1.out; omega⟩, by repeat (first | exact Drawn0.refl _ | apply Drawn0.step)⟩
         ·rw [if_neg c12] at H
          exact absurd H (by simp)
        ·rw [if_neg c11] at H
         have c11b0 : ((bt a0 (ji7)) == 36) = false := beq_eq_false_iff_ne.mpr c11
         have c11b1 : ((bt a0 (ji7)) != 36) = true := bne_iff_ne.mpr c11
         by_cases c14 : (((bt a0 (ji7)) - 49) % 256) < (l1.length : Int)
         ·rw [if_pos c14] at H
          have c14b0 : decide ((((bt a0 (ji7)) - 49) % 256) < (l1.length : Int)) = true := decide_eq_true c14
          clear c14
          obtain ⟨ji15, hji15⟩ : ∃ j_ : Int, (((bt a0 (ji7)) - 49) % 256) = j_ := ⟨_, rfl⟩
          replace H : (if 0 ≤ (ji15) then (if x5_1.size + (rdOf ByteArray.empty l1 (ji15)).size ≤ 9223372036854775807 then (spec_l4Fill.l0 k1 a0 l1 (x5_1 ++ (rdOf ByteArray.empty l1 (ji15))) (wrap64 ((ji7) + 1))) else (none)) else (none)) = some r := by first | (rw [hji15] at H; exact H) | (simp only [hji15] at H ⊢; exact H)
          (try rw [hji15] at c14b0)
          by_cases c16 : 0 ≤ (ji15)
          ·rw [if_pos c16] at H
           have c16b0 : decide (0 ≤ (ji15)) = true := decide_eq_true c16
           clear c16
           by_cases c17 : x5_1.size + (rdOf ByteArray.empty l1 (ji15)).size ≤ 9223372036854775807
           ·rw [if_pos c17] at H
            have c17b0 := eq_true c17
            have c17b1 : decide (x5_1.size + (rdOf ByteArray.empty l1 (ji15)).size ≤ 9223372036854775807) = true := decide_eq_true c17
            try have c17b2 : (9223372036854775807 < x5_1.size + (rdOf ByteArray.empty l1 (ji15)).size) = False := eq_false (Nat.not_lt.2 c17)
            have H' := am_ H
            clear H
            have p5 : 0 ≤ (x6_1 : Int) := od_
            have q5 : x6_1 < (a0.size : Int) := od_
            have hx5 := bt_at a0 x6_1
            replace p5 := eq_true p5
            replace q5 := eq_true q5
            have p10 : 0 ≤ ((ji7) : Int) := od_
            have q10 : (ji7) < (a0.size : Int) := od_
            have hx10 := bt_at a0 (ji7)
            replace p10 := eq_true p10
            replace q10 := eq_true q10
            have p13 : 0 ≤ ((ji7) : Int) := od_
            have q13 : (ji7) < (a0.size : Int) := od_
            have hx13 := bt_at a0 (ji7)
            replace p13 := eq_true p13
            replace q13 := eq_true q13
            have p1001 : 0 ≤ ((ji15) : Int) := od_
            have q1001 : (ji15) < (l1.length : Int) := od_
            obtain ⟨ad1001, e1001, hx1001_0⟩ := Kd.at_string HR1.out (ji15) p1001 q1001
            cases e1001
            replace p1001 := eq_true p1001
            replace q1001 := eq_true q1001
            go_wp2
            go_roundg k1
            case measure => have := HK1.out; omega
            case rel => exact ⟨(x5_1 ++ (rdOf ByteArray.empty l1 (ji15))), (wrap64 ((ji7) + 1)), (by first | rfl | (simp; done) | (simp only [← hji15] <;> (first | rfl | simp)) | (simp [*]; done)), (by first | rfl | (simp; done) | (simp only [← hji7] <;> (first | rfl | simp)) | (simp [*]; done)), (by first | exact H' | (simp only [hji7]; exact H') | (rw [hji7]; exact H')), ⟨by have := HK1.out; omega⟩, by repeat (first | exact Drawn0.refl _ | apply Drawn0.step)⟩
           ·rw [if_neg c17] at H
            exact absurd H (by simp)
          ·rw [if_neg c16] at H
           exact absurd H (by simp)
         ·rw [if_neg c14] at H
          have c14b0 : decide ((((bt a0 (ji7)) - 49) % 256) < (l1.length : Int)) = false := decide_eq_false c14
          clear c14
          have H' := am_ H
          clear H
          have p5 : 0 ≤ (x6_1 : Int) := od_
          have q5 : x6_1 < (a0.size : Int) := od_
          have hx5 := bt_at a0 x6_1
          replace p5 := eq_true p5
          replace q5 := eq_true q5
          have p10 : 0 ≤ ((ji7) : Int) := od_
          have q10 : (ji7) < (a0.size : Int) := od_
          have hx10 := bt_at a0 (ji7)
          replace p10 := eq_true p10
          replace q10 := eq_true q10
          have p13 : 0 ≤ ((ji7) : Int) := od_
          have q13 : (ji7) < (a0.size : Int) := od_
          have hx13 := bt_at a0 (ji7)
          replace p13 := eq_true p13
          replace q13 := eq_true q13
          go_wp2
          go_roundg k1
          case measure => have := HK1.out; omega
          case rel => exact ⟨(x5_1), (wrap64 ((ji7) + 1)), rs_, (by first | rfl | (simp; done) | (simp only [← hji7] <;> (first | rfl | simp)) | (simp [*]; done)), (by first | exact H' | (simp only [hji7]; exact H') | (rw [hji7]; exact H')), ⟨by have := HK1.out; omega⟩, by repeat (first | exact Drawn0.refl _ | apply Drawn0.step)⟩
       ·rw [if_neg c9] at H
        exact absurd H (by simp)
      ·rw [if_neg c8] at H
       exact absurd H (by simp)
     ·rw [if_neg c6] at H
      have c6b0 : ((bt a0 x6_1) == 36) = false := beq_eq_false_iff_ne.mpr c6
      have c6b1 : ((bt a0 x6_1) != 36) = true := bne_iff_ne.mpr c6
      have c18b0 := eq_true (od_ : 0 ≤ x6_1)
      by_cases c19 : x6_1 ≤ (wrap64 (x6_1 + 1))
      ·rw [if_pos c19] at H
       have c19b0 := eq_true c19
       have c19b1 : decide (x6_1 ≤ (wrap64 (x6_1 + 1))) = true := decide_eq_true c19
       by_cases c20 : (wrap64 (x6_1 + 1)) ≤ (a0.size : Int)
       ·rw [if_pos c20] at H
        have c20b0 := eq_true c20
        have c20b1 : decide ((wrap64 (x6_1 + 1)) ≤ (a0.size : Int)) = true := decide_eq_true c20
        by_cases c21 : x5_1.size + (a0.extract (x6_1 : Int).toNat ((wrap64 (x6_1 + 1)) : Int).toNat).size ≤ 9223372036854775807
        ·rw [if_pos c21] at H
         have c21b0 := eq_true c21
         have c21b1 : decide (x5_1.size + (a0.extract (x6_1 : Int).toNat ((wrap64 (x6_1 + 1)) : Int).toNat).size ≤ 9223372036854775807) = true := decide_eq_true c21
         try have c21b2 : (9223372036854775807 < x5_1.size + (a0.extract (x6_1 : Int).toNat ((wrap64 (x6_1 + 1)) : Int).toNat).size) = False := eq_false (Nat.not_lt.2 c21)
         have H' := am_ H
         clear H
         have p5 : 0 ≤ (x6_1 : Int) := od_
         have q5 : x6_1 < (a0.size : Int) := od_
         have hx5 := bt_at a0 x6_1
         replace p5 := eq_true p5
         replace q5 := eq_true q5
         go_wp2
         go_roundg k1
         case measure => have := HK1.out; omega
         case rel => exact ⟨(x5_1 ++ (a0.extract (x6_1 : Int).toNat ((wrap64 (x6_1 + 1)) : Int).toNat)), (wrap64 (x6_1 + 1)), rs_, rs_, H', ⟨by have := HK1.out; omega⟩, by repeat (first | exact Drawn0.refl _ | apply Drawn0.step)⟩
        ·rw [if_neg c21] at H
         exact absurd H (by simp)
       ·rw [if_neg c20] at H
        exact absurd H (by simp)
      ·rw [if_neg c19] at H
       exact absurd H (by simp)
    ·rw [if_neg c4] at H
     exact absurd H (by simp)
   ·rw [if_neg c3] at H
    have c3b0 : decide (x6_1 < (a0.size : Int)) = false := decide_eq_false c3
    clear c3
    obtain rfl := Option.some.inj H
    go_wp2
    go_ret
    exact ⟨by first | rfl | (simp; done) | (simp [*]; done), by repeat (first | exact Drawn0.refl _ | apply Drawn0.step)⟩

/-! ### spec_FillValue: function 6 -/
def spec_FillValue.f (k : Nat) (a0 : ByteArray) (l1 : List ByteArray) : Option (ByteArray) := (spec_l4Filling.f k a0).bind fun t1001 => (if t1001 = true then (if (l1.length : Int) > 100 then (some (⟨#[]⟩ : ByteArray)) else ((spec_l4Fill.f k a0 l1).bind fun t1002 => (some t1002))) else (some (⟨#[]⟩ : ByteArray)))
theorem spec_FillValue.mono : ∀ a0 a1 k, LeO (spec_FillValue.f k a0 a1) (spec_FillValue.f (k + 1) a0 a1) := by
 intro a0 a1 k
 unfold spec_FillValue.f
 repeat' first
   | with_reducible first | exact spec_l4Fill.mono _ _ _ | exact spec_l4Filling.mono _ _ | exact LeO.refl _ | exact LeO.none _ | refine LeO.ite ?_ ?_ | refine LeO.bind ?_ (fun _ => ?_)
   | exact spec_l4Fill.mono _ _ _
   | exact spec_l4Filling.mono _ _
   | exact LeO.none _
   | refine LeO.ite ?_ ?_
   | refine LeO.bind ?_ (fun _ => ?_)
set_option maxHeartbeats 8000000 in
set_option maxRecDepth 100000 in
theorem spec_FillValue.calls (k : Nat) (a0 : ByteArray) (A1 : Option Addr) (c1 : Nat) (l1 : List ByteArray) (r : ByteArray) (w : World) (hr1 : Kd.C Kd.string w A1 l1.length l1) (hc1 : l1.length ≤ c1) (h : spec_FillValue.f k a0 l1 = some r) :
  Calls Try.prog 6 #[.string a0, .slice A1 l1.length c1] w fun e w' => e = .returned (.string r) ∧ Drawn0 w w' := by
 have HR1 := am_ hr1
 have HC1 := am_ hc1
 clear hr1 hc1
 have H : ((spec_l4Filling.f k a0).bind fun t1001 => (if t1001 = true then (if (l1.length : Int) > 100 then (some (⟨#[]⟩ : ByteArray)) else ((spec_l4Fill.f k a0 l1).bind fun t1002 => (some t1002))) else (some (⟨#[]⟩ : ByteArray)))) = some r := h
 clear h
 replace H := Option.bind_eq_some_iff.mp H
 obtain ⟨t1001, A30, H⟩ := H
 replace H : (if t1001 = true then (if (l1.length : Int) > 100 then (some (⟨#[]⟩ : ByteArray)) else ((spec_l4Fill.f k a0 l1).bind fun t1002 => (some t1002))) else (some (⟨#[]⟩ : ByteArray))) = some r := H
 have A3 := am_ A30
 clear A30
 by_cases c4 : t1001 = true
 ·subst c4
  have H1 : (if (l1.length : Int) > 100 then (some (⟨#[]⟩ : ByteArray)) else ((spec_l4Fill.f k a0 l1).bind fun t1002 => (some t1002))) = some r := by rw [if_pos rfl] at H; exact H
  clear H
  have H := H1
  clear H1
  by_cases c5 : (l1.length : Int) > 100
  ·rw [if_pos c5] at H
   have c5b0 : decide (100 < (l1.length : Int)) = true := decide_eq_true c5
   have c5b1 : decide (100 < l1.length) = true := decide_eq_true (by omega)
   clear c5
   obtain rfl := Option.some.inj H
   go_enter Try.func6, Try.ntmps6
   go_wp2_with (first | ((with_reducible refine gate_callee (f := 19) rfl ?_); refine goesL_ (some 6) rfl rfl Try.func19 (by kernel_rfl) rfl #[.string a0] rfl ag_ ?_; (with_reducible refine (spec_l4Filling.calls k a0 true _ A3.out).mono ?_); rintro e w' ⟨rfl, ⟨nd, rfl⟩⟩; refine ⟨_, rfl, ?_⟩))
   go_ret
   exact ⟨by first | rfl | (simp; done) | (simp [*]; done), by repeat (first | exact Drawn0.refl _ | apply Drawn0.step)⟩
  ·rw [if_neg c5] at H
   have c5b0 : decide (100 < (l1.length : Int)) = false := decide_eq_false c5
   have c5b1 : decide (100 < l1.length) = false := decide_eq_false (by omega)
   clear c5
   replace H := Option.bind_eq_some_iff.mp H
   obtain ⟨t1002, A60, H⟩ := H
   replace H : (some t1002) = some r := H
   have A6 := am_ A60
   clear A60
   obtain rfl := Option.some.inj H
   go_enter Try.func6, Try.ntmps6
   go_wp2_with (first | ((with_reducible refine gate_callee (f := 19) rfl ?_); refine goesL_ (some 6) rfl rfl Try.func19 (by kernel_rfl) rfl #[.string a0] rfl ag_ ?_; (with_reducible refine (spec_l4Filling.calls k a0 true _ A3.out).mono ?_); rintro e w' ⟨rfl, ⟨nd, rfl⟩⟩; refine ⟨_, rfl, ?_⟩) | ((with_reducible refine gate_callee (f := 20) rfl ?_); refine goesL_ (some 15) rfl rfl Try.func20 (by kernel_rfl) rfl #[.string a0, .slice A1 l1.length c1] rfl ag_ ?_; (with_reducible refine (spec_l4Fill.calls k a0 _ _ l1 t1002 _ ?side1 ?side2 A6.out).mono ?_); (case side1 => repeat (first | exact HR1.out | (with_reducible refine Kd.C_alloc ?_ _) | (with_reducible refine Kd.C_drewN ?_ _) | (with_reducible refine Kd.C_drew ?_))); (case side2 => exact HC1.out); rintro e w' ⟨rfl, ⟨nd, rfl⟩⟩; refine ⟨_, rfl, ?_⟩))
   go_ret
   exact ⟨by first | rfl | (simp; done) | (simp [*]; done), by repeat (first | exact Drawn0.refl _ | apply Drawn0.step)⟩
 ·replace c4 := Bool.eq_false_iff.mpr c4
  subst c4
  have H1 : (some (⟨#[]⟩ : ByteArray)) = some r := by rw [if_neg (show ¬ (false = true) by decide)] at H; exact H
  clear H
  have H := H1
  clear H1
  obtain rfl := Option.some.inj H
  go_enter Try.func6, Try.ntmps6
  go_wp2_with (first | ((with_reducible refine gate_callee (f := 19) rfl ?_); refine goesL_ (some 6) rfl rfl Try.func19 (by kernel_rfl) rfl #[.string a0] rfl ag_ ?_; (with_reducible refine (spec_l4Filling.calls k a0 false _ A3.out).mono ?_); rintro e w' ⟨rfl, ⟨nd, rfl⟩⟩; refine ⟨_, rfl, ?_⟩))
  go_ret
  exact ⟨by first | rfl | (simp; done) | (simp [*]; done), by repeat (first | exact Drawn0.refl _ | apply Drawn0.step)⟩

/-! ### impl_FillValue: function 8 -/
def fv_ren : Go.Shelf.Ren := ⟨fun | 166 => 23 | 167 => 22 | 240 => 41 | 276 => 59 | n => n, fun | 31 => 22 | 9 => 9 | 3 => 3 | 4 => 4 | 0 => 0 | 20 => 20 | 72 => 49 | 76 => 53 | 70 => 46 | 37 => 47 | 75 => 51 | 127 => 68 | 164 => 88 | 5 => 5 | 80 => 55 | n => n, fun | n => n⟩
theorem fv_lays166 : Go.Proofs.Lays.n166 Try.prog fv_ren := {
  mixed := by kernel_rfl
  f166 := Try.func23.trans (congrArg some (by kernel_rfl))
  f240 := Try.func41.trans (congrArg some (by kernel_rfl))
  f276 := Try.func59.trans (congrArg some (by kernel_rfl))
  t0 := Try.underlying0
  a0 := Try.isAgg0
  z0 := Try.sizeOf0
  v0 := Try.zeroValue0
  t3 := Try.underlying3
  a3 := Try.isAgg3
  z3 := Try.sizeOf3
  v3 := Try.zeroValue3
  t4 := Try.underlying4
  a4 := Try.isAgg4
  z4 := Try.sizeOf4
  v4 := Try.zeroValue4
  t9 := Try.underlying9
  a9 := Try.isAgg9
  z9 := Try.sizeOf9
  v9 := Try.zeroValue9
  t20 := Try.underlying20
  a20 := Try.isAgg20
  z20 := Try.sizeOf20
  v20 := Try.zeroValue20
  t37 := Try.underlying47
  a37 := Try.isAgg47
  z37 := Try.sizeOf47
  v37 := Try.zeroValue47
  t70 := Try.underlying46
  a70 := Try.isAgg46
  z70 := Try.sizeOf46
  v70 := Try.zeroValue46
  t72 := Try.underlying49
  a72 := Try.isAgg49
  z72 := Try.sizeOf49
  v72 := Try.zeroValue49
  t75 := Try.underlying51
  a75 := Try.isAgg51
  z75 := Try.sizeOf51
  v75 := Try.zeroValue51
  t164 := Try.underlying88
  a164 := Try.isAgg88
  z164 := Try.sizeOf88
  v164 := Try.zeroValue88 }
theorem fv_lays167 : Go.Proofs.Lays.n167 Try.prog fv_ren := {
  mixed := by kernel_rfl
  f167 := Try.func22.trans (congrArg some (by kernel_rfl))
  f240 := Try.func41.trans (congrArg some (by kernel_rfl))
  f276 := Try.func59.trans (congrArg some (by kernel_rfl))
  t0 := Try.underlying0
  a0 := Try.isAgg0
  z0 := Try.sizeOf0
  v0 := Try.zeroValue0
  t4 := Try.underlying4
  a4 := Try.isAgg4
  z4 := Try.sizeOf4
  v4 := Try.zeroValue4
  t5 := Try.underlying5
  a5 := Try.isAgg5
  z5 := Try.sizeOf5
  v5 := Try.zeroValue5
  t9 := Try.underlying9
  a9 := Try.isAgg9
  z9 := Try.sizeOf9
  v9 := Try.zeroValue9
  t20 := Try.underlying20
  a20 := Try.isAgg20
  z20 := Try.sizeOf20
  v20 := Try.zeroValue20
  t37 := Try.underlying47
  a37 := Try.isAgg47
  z37 := Try.sizeOf47
  v37 := Try.zeroValue47
  t70 := Try.underlying46
  a70 := Try.isAgg46
  z70 := Try.sizeOf46
  v70 := Try.zeroValue46
  t72 := Try.underlying49
  a72 := Try.isAgg49
  z72 := Try.sizeOf49
  v72 := Try.zeroValue49
  t75 := Try.underlying51
  a75 := Try.isAgg51
  z75 := Try.sizeOf51
  v75 := Try.zeroValue51
  t164 := Try.underlying88
  a164 := Try.isAgg88
  z164 := Try.sizeOf88
  v164 := Try.zeroValue88 }
theorem fv_extra : Go.Proofs.Builder.Extra Try.prog fv_ren := {
  sizeBuilder := by kernel_rfl
  liesBuilder := by kernel_rfl
  t5 := Try.underlying5
  a5 := Try.isAgg5
  z5 := Try.sizeOf5
  v5 := Try.zeroValue5
  infoByte := by kernel_rfl
  cellsByte := by kernel_rfl
  sizeByte := by kernel_rfl
  neB5 := by decide }
theorem fv_wb (B b : Nat) (bs : List Value) (c : Int) (w : World) (h : Lib.IsBuilder 49 5 B b bs w) (hlen : bs.length + 1 ≤ 140737488355328) (hBw : B ≤ w.heap.size) :
    Calls Try.prog 22 #[.pointer (some ⟨b, 0, none⟩), .int .u8 c] w fun e w' => e = .returned .nilIface ∧ (Lib.BuilderAt 49 5 B b (.pointer (some ⟨b, 0, none⟩)) (bs ++ [.int .u8 c]) w' ∧ Below B w w') := Any.Builder_WriteByte fv_lays167 fv_extra B b bs c w h hlen hBw
theorem fv_ws (B b : Nat) (bs : List Value) (s : ByteArray) (w : World) (h : Lib.IsBuilder 49 5 B b bs w) (hlen : bs.length + s.size ≤ 140737488355328) (hBw : B ≤ w.heap.size) :
    Calls Try.prog 23 #[.pointer (some ⟨b, 0, none⟩), .string s] w fun e w' => e = .returned (.tuple #[.int .i64 s.size, .nilIface]) ∧ (Lib.BuilderAt 49 5 B b (.pointer (some ⟨b, 0, none⟩)) (bs ++ Lib.strCells s) w' ∧ Below B w w') := Any.Builder_WriteString fv_lays166 fv_extra B b bs s w h hlen hBw
theorem fv_append (a b : ByteArray) : Lib.strCells (a ++ b) = Lib.strCells a ++ Lib.strCells b := by
  simp [Lib.strCells, ByteArray.data_append]
theorem fv_one (s : ByteArray) (i : Int) (h : i.toNat < s.size) : Lib.strCells (s.extract i.toNat (i.toNat + 1)) = [.int .u8 (bt s i)] := by
  rw [← bt_at s i h]
  unfold Lib.strCells
  rw [ByteArray.data_extract, Array.toList_extract]
  have e : s.data.toList.drop i.toNat = s[i.toNat] :: s.data.toList.drop (i.toNat + 1) := List.drop_eq_getElem_cons h
  simp [List.extract_eq_take_drop, e]
def impl_FillValue.l0 : Nat → ByteArray → List ByteArray → ByteArray → Int → Option (ByteArray)
 | 0, _, _, _, _ => none
 | k + 1, x0, x1, x5, x6 => if x6 < (x0.size : Int) then (if 0 ≤ x6 then (if (bt x0 x6) = 36 then (if 0 ≤ (wrap64 (x6 + 1)) then (if (wrap64 (x6 + 1)) < (x0.size : Int) then (if (bt x0 (wrap64 (x6 + 1))) = 36 then (if x5.size + 1 ≤ 140737488355328 then (impl_FillValue.l0 k x0 x1 (x5 ++ (⟨#[36]⟩ : ByteArray)) (wrap64 ((wrap64 (x6 + 1)) + 1))) else (none)) else (if (((bt x0 (wrap64 (x6 + 1))) - 49) % 256) < (x1.length : Int) then (if 0 ≤ (((bt x0 (wrap64 (x6 + 1))) - 49) % 256) then (if x5.size + (rdOf ByteArray.empty x1 (((bt x0 (wrap64 (x6 + 1))) - 49) % 256)).size ≤ 140737488355328 then (impl_FillValue.l0 k x0 x1 (x5 ++ (rdOf ByteArray.empty x1 (((bt x0 (wrap64 (x6 + 1))) - 49) % 256))) (wrap64 ((wrap64 (x6 + 1)) + 1))) else (none)) else (none)) else (impl_FillValue.l0 k x0 x1 x5 (wrap64 ((wrap64 (x6 + 1)) + 1))))) else (none)) else (none)) else (if x5.size + 1 ≤ 140737488355328 then (impl_FillValue.l0 k x0 x1 (x5 ++ (x0.extract (x6 : Int).toNat ((x6 : Int).toNat + 1))) (wrap64 (x6 + 1))) else (none))) else (none)) else (some x5)
def impl_FillValue.f (k : Nat) (a0 : ByteArray) (l1 : List ByteArray) : Option (ByteArray) := (impl_isFilling.f k a0).bind fun t1 => (if t1 = true then (if (l1.length : Int) > 100 then (some (⟨#[]⟩ : ByteArray)) else impl_FillValue.l0 k a0 l1 (⟨#[]⟩ : ByteArray) 0) else (some (⟨#[]⟩ : ByteArray)))
theorem impl_FillValue.mono_l : ∀ k, (∀ y0 y1 y2 y3, LeO (impl_FillValue.l0 k y0 y1 y2 y3) (impl_FillValue.l0 (k + 1) y0 y1 y2 y3))
 | 0 => fun _ _ _ _ r h => by simp [impl_FillValue.l0] at h
 | k + 1 => by
  have ih0 := impl_FillValue.mono_l k
  intro y0 y1 y2 y3
  unfold impl_FillValue.l0
  repeat' with_reducible first | exact ih0 _ _ _ _ | exact LeO.refl _ | exact LeO.none _ | refine LeO.ite ?_ ?_ | refine LeO.bind ?_ (fun _ => ?_)
theorem impl_FillValue.mono : ∀ a0 a1 k, LeO (impl_FillValue.f k a0 a1) (impl_FillValue.f (k + 1) a0 a1) := by
 intro a0 a1 k
 have ih0 := impl_FillValue.mono_l k
 unfold impl_FillValue.f
 repeat' with_reducible first | exact impl_isFilling.mono _ _ | exact ih0 _ _ _ _ | exact LeO.refl _ | exact LeO.none _ | refine LeO.ite ?_ ?_ | refine LeO.bind ?_ (fun _ => ?_)
set_option maxHeartbeats 8000000 in
set_option maxRecDepth 100000 in
theorem impl_FillValue.calls (k : Nat) (a0 : ByteArray) (A1 : Option Addr) (c1 : Nat) (l1 : List ByteArray) (r : ByteArray) (w : World) (hr1 : Kd.C Kd.string w A1 l1.length l1) (hc1 : l1.length ≤ c1) (h : impl_FillValue.f k a0 l1 = some r) :
  Calls Try.prog 8 #[.string a0, .slice A1 l1.length c1] w fun e w' => e = .returned (.string r) ∧ Below w.heap.size w w' := by
 have HR1 := am_ hr1
 have HC1 := am_ hc1
 clear hr1 hc1
 have H : ((impl_isFilling.f k a0).bind fun t1 => (if t1 = true then (if (l1.length : Int) > 100 then (some (⟨#[]⟩ : ByteArray)) else impl_FillValue.l0 k a0 l1 (⟨#[]⟩ : ByteArray) 0) else (some (⟨#[]⟩ : ByteArray)))) = some r := h
 clear h
 obtain ⟨t1, hg, H⟩ := Option.bind_eq_some_iff.mp H
 have HG := am_ hg
 clear hg
 have v49 := Try.zeroValue49
 have z49 := Try.sizeOf49
 have a49 := Try.isAgg49
 have t49 := Try.underlying49
 by_cases c0 : t1 = true
 · rw [if_pos c0] at H
   subst c0
   by_cases c2 : (l1.length : Int) > 100
   · rw [if_pos c2] at H
     obtain rfl := Option.some.inj H
     have c2b : decide ((l1.length : Int) > 100) = true := decide_eq_true c2
     clear H
     go_enter Try.func8, Try.ntmps8
     go_wp2_with (go_at_call 21; (with_reducible refine (impl_isFilling.calls k _ true _ HG.out).mono ?_); rintro e w' ⟨rfl, ⟨m1, rfl⟩⟩)
     go_ret
     exact ⟨rf_, pw_below_drewN (Below.refl _ _) _⟩
   · rw [if_neg c2] at H
     have c2b : decide ((l1.length : Int) > 100) = false := decide_eq_false c2
     have H' := am_ H
     clear H
     go_enter Try.func8, Try.ntmps8
     go_wp2_with (go_at_call 21; (with_reducible refine (impl_isFilling.calls k _ true _ HG.out).mono ?_); rintro e w' ⟨rfl, ⟨m1, rfl⟩⟩)
     go_loopg [6] k (fun kq v6 w' => ∃ (x5_1 : ByteArray) (x6_1 : Int), v6 = .int .i64 x6_1 ∧ Aside0 (impl_FillValue.l0 kq a0 l1 x5_1 x6_1 = some r) ∧ Aside0 (kq ≤ k) ∧ Lib.IsBuilder 49 5 w.heap.size w.heap.size (Lib.strCells x5_1) w' ∧ Below w.heap.size w w')
     case atStart => exact ⟨⟨#[]⟩, 0, rs_, H', ⟨Nat.le_refl _⟩, Lib.fresh_isBuilder 49 5 (w.drewN m1), (pw_below_drewN (Below.refl _ _) _).alloc (Nat.le_refl _) _⟩
     case round =>
      clear H'
      obtain ⟨x5_1, x6_1, rfl, HA, HK1, hI, hb⟩ := hrel
      have HB := am_ hb
      have HI := am_ hI
      clear hb hI
      have hlc : ∀ s : ByteArray, (Lib.strCells s).length = s.size := Lib.strCells_length
      cases gk with
      | zero => exact absurd HA.out (by simp [impl_FillValue.l0])
      | succ k1 =>
       have H := HA.out
       clear HA
       simp only [impl_FillValue.l0] at H
       by_cases c3 : x6_1 < (a0.size : Int)
       ·rw [if_pos c3] at H
        have c3b0 : decide (x6_1 < (a0.size : Int)) = true := decide_eq_true c3
        by_cases c4 : 0 ≤ x6_1
        ·rw [if_pos c4] at H
         have c4b0 : decide (0 ≤ x6_1) = true := decide_eq_true c4
         by_cases c6 : (bt a0 x6_1) = 36
         ·rw [if_pos c6] at H
          have c6b0 : ((bt a0 x6_1) == 36) = true := beq_iff_eq.mpr c6
          have c6b1 : ((bt a0 x6_1) != 36) = false := bne_eq_false_iff_eq.mpr c6
          obtain ⟨ji7, hji7⟩ : ∃ j_ : Int, (wrap64 (x6_1 + 1)) = j_ := ⟨_, rfl⟩
          rw [hji7] at H
          have hji7w : (IntKind.i64.wrap (x6_1 + 1)) = ji7 := (i64_w _).trans hji7
          by_cases c8 : 0 ≤ (ji7)
          ·rw [if_pos c8] at H
           have c8b0 : decide (0 ≤ (ji7)) = true := decide_eq_true c8
           by_cases c9 : (ji7) < (a0.size : Int)
           ·rw [if_pos c9] at H
            have c9b0 : decide ((ji7) < (a0.size : Int)) = true := decide_eq_true c9
            have p5 : 0 ≤ (x6_1 : Int) := od_
            have q5 : x6_1 < (a0.size : Int) := od_
            have hx5 := bt_at a0 x6_1
            replace p5 := eq_true p5
            replace q5 := eq_true q5
            have p10 : 0 ≤ ((ji7) : Int) := od_
            have q10 : (ji7) < (a0.size : Int) := od_
            have hx10 := bt_at a0 (ji7)
            replace p10 := eq_true p10
            replace q10 := eq_true q10
            by_cases c11 : (bt a0 (ji7)) = 36
            ·rw [if_pos c11] at H
             have c11b0 : ((bt a0 (ji7)) == 36) = true := beq_iff_eq.mpr c11
             have c11b1 : ((bt a0 (ji7)) != 36) = false := bne_eq_false_iff_eq.mpr c11
             by_cases c12 : x5_1.size + 1 ≤ 140737488355328
             ·rw [if_pos c12] at H
              have C12 := am_ c12
              have H' := am_ H
              clear H c12 c3 c4 c6 c8 c9 c11
              go_wp2_with (go_at_call 22; (with_reducible refine (fv_wb w.heap.size w.heap.size _ 36 _ HI.out (by rw [hlc]; exact C12.out) HB.out.size).mono ?_); rintro e wz ⟨rfl, hI, hb⟩)
              go_roundg k1
              case measure => have := HK1.out; omega
              case rel => exact ⟨x5_1 ++ ⟨#[36]⟩, wrap64 (ji7 + 1), rs_, H', ⟨by have := HK1.out; omega⟩, by rw [fv_append]; exact Or.inr hI, HB.out.trans hb⟩
             ·rw [if_neg c12] at H
              exact absurd H (by simp)
            ·rw [if_neg c11] at H
             have c11b0 : ((bt a0 (ji7)) == 36) = false := beq_eq_false_iff_ne.mpr c11
             have c11b1 : ((bt a0 (ji7)) != 36) = true := bne_iff_ne.mpr c11
             by_cases c14 : (((bt a0 (ji7)) - 49) % 256) < (l1.length : Int)
             ·rw [if_pos c14] at H
              have c14b0 : decide ((((bt a0 (ji7)) - 49) % 256) < (l1.length : Int)) = true := decide_eq_true c14
              obtain ⟨ji15, hji15⟩ : ∃ j_ : Int, (((bt a0 (ji7)) - 49) % 256) = j_ := ⟨_, rfl⟩
              rw [hji15] at H c14b0 c14
              by_cases c16 : 0 ≤ (ji15)
              ·rw [if_pos c16] at H
               have c16b0 : decide (0 ≤ (ji15)) = true := decide_eq_true c16
               by_cases c17 : x5_1.size + (rdOf ByteArray.empty l1 (ji15)).size ≤ 140737488355328
               ·rw [if_pos c17] at H
                have C17 := am_ c17
                have H' := am_ H
                have p1001 : 0 ≤ ((ji15) : Int) := od_
                have q1001 : (ji15) < (l1.length : Int) := od_
                obtain ⟨ad1001, e1001, hx1001_0⟩ := Kd.at_string (Kd.C_below HR1.out HB.out) (ji15) p1001 q1001
                cases e1001
                replace p1001 := eq_true p1001
                replace q1001 := eq_true q1001
                clear H c17 c3 c4 c6 c8 c9 c11 c14 c16
                go_wp2_with (go_at_call 23; (with_reducible refine (fv_ws w.heap.size w.heap.size _ (rdOf ByteArray.empty l1 (ji15)) _ HI.out (by rw [hlc]; exact C17.out) HB.out.size).mono ?_); rintro e wz ⟨rfl, hI, hb⟩)
                go_roundg k1
                case measure => have := HK1.out; omega
                case rel => exact ⟨x5_1 ++ rdOf ByteArray.empty l1 ji15, wrap64 (ji7 + 1), rs_, H', ⟨by have := HK1.out; omega⟩, by rw [fv_append]; exact Or.inr hI, HB.out.trans hb⟩
               ·rw [if_neg c17] at H
                exact absurd H (by simp)
              ·rw [if_neg c16] at H
               exact absurd H (by simp)
             ·rw [if_neg c14] at H
              have c14b0 : decide ((((bt a0 (ji7)) - 49) % 256) < (l1.length : Int)) = false := decide_eq_false c14
              have H' := am_ H
              clear H c3 c4 c6 c8 c9 c11 c14
              go_wp2
              go_roundg k1
              case measure => have := HK1.out; omega
              case rel => exact ⟨x5_1, wrap64 (ji7 + 1), rs_, H', ⟨by have := HK1.out; omega⟩, HI.out, HB.out⟩
           ·rw [if_neg c9] at H
            exact absurd H (by simp)
          ·rw [if_neg c8] at H
           exact absurd H (by simp)
         ·rw [if_neg c6] at H
          have c6b0 : ((bt a0 x6_1) == 36) = false := beq_eq_false_iff_ne.mpr c6
          have c6b1 : ((bt a0 x6_1) != 36) = true := bne_iff_ne.mpr c6
          by_cases c21 : x5_1.size + 1 ≤ 140737488355328
          ·rw [if_pos c21] at H
           have C21 := am_ c21
           have H' := am_ H
           have E1 := am_ (fv_one a0 x6_1 (by omega))
           have p5 : 0 ≤ (x6_1 : Int) := od_
           have q5 : x6_1 < (a0.size : Int) := od_
           have hx5 := bt_at a0 x6_1
           replace p5 := eq_true p5
           replace q5 := eq_true q5
           clear H c21 c3 c4 c6
           go_wp2_with (go_at_call 22; (with_reducible refine (fv_wb w.heap.size w.heap.size _ (bt a0 x6_1) _ HI.out (by rw [hlc]; exact C21.out) HB.out.size).mono ?_); rintro e wz ⟨rfl, hI, hb⟩)
           go_roundg k1
           case measure => have := HK1.out; omega
           case rel => exact ⟨x5_1 ++ a0.extract x6_1.toNat (x6_1.toNat + 1), wrap64 (x6_1 + 1), rs_, H', ⟨by have := HK1.out; omega⟩, by rw [fv_append, E1.out]; exact Or.inr hI, HB.out.trans hb⟩
          ·rw [if_neg c21] at H
           exact absurd H (by simp)
        ·rw [if_neg c4] at H
         exact absurd H (by simp)
       ·rw [if_neg c3] at H
        have c3b0 : decide (x6_1 < (a0.size : Int)) = false := decide_eq_false c3
        clear c3
        obtain rfl := Option.some.inj H
        clear H
        have HJ : Aside0 (Lib.IsBuilder 49 5 w.heap.size w.heap.size (Lib.byteCells x5_1.data.toList) wr) := am_ HI.out
        go_wp2_with (go_at_call 24; (with_reducible refine (Try.Builder_String_any w.heap.size w.heap.size x5_1.data.toList _ HJ.out HB.out.size).mono ?_); rintro e wz ⟨rfl, hb⟩)
        go_ret
        exact ⟨by first | rfl | simp, HB.out.trans hb⟩
 · rw [if_neg c0] at H
   obtain rfl := Option.some.inj H
   obtain rfl : t1 = false := Bool.eq_false_iff.2 c0
   clear H
   go_enter Try.func8, Try.ntmps8
   go_wp2_with (go_at_call 21; (with_reducible refine (impl_isFilling.calls k _ false _ HG.out).mono ?_); rintro e w' ⟨rfl, ⟨m1, rfl⟩⟩)
   go_ret
   exact ⟨rf_, pw_below_drewN (Below.refl _ _) _⟩

/-! ### laws_FnExactFillValue: function 3 -/
def laws_FnExactFillValue.f (k : Nat) (a0 : ByteArray) (l1 : List ByteArray) : Option (Bool) := if (a0.size : Int) > 1048576 then (some true) else ((laws_szStringS.f k l1 1048576).bind fun t1001 => (if t1001 < 0 then (some true) else ((laws_toStringS.f k l1).bind fun t1002 => ((spec_FillValue.f k a0 t1002).bind fun t1005 => ((laws_toStringS.f k l1).bind fun t1006 => ((impl_FillValue.f k a0 t1006).bind fun t1009 => (if t1009.toList = t1005.toList then ((laws_toStringS.f k l1).bind fun t1010 => ((laws_eqStringS.f k t1006 t1010).bind fun t1013 => (if t1013 = true then (some true) else (none)))) else (none))))))))
theorem laws_FnExactFillValue.mono : ∀ a0 a1 k, LeO (laws_FnExactFillValue.f k a0 a1) (laws_FnExactFillValue.f (k + 1) a0 a1) := by
 intro a0 a1 k
 unfold laws_FnExactFillValue.f
 repeat' first
   | with_reducible first | exact impl_FillValue.mono _ _ _ | exact laws_eqStringS.mono _ _ _ | exact laws_szStringS.mono _ _ _ | exact laws_toStringS.mono _ _ | exact spec_FillValue.mono _ _ _ | exact LeO.refl _ | exact LeO.none _ | refine LeO.ite ?_ ?_ | refine LeO.bind ?_ (fun _ => ?_)
   | exact impl_FillValue.mono _ _ _
   | exact laws_eqStringS.mono _ _ _
   | exact laws_szStringS.mono _ _ _
   | exact laws_toStringS.mono _ _
   | exact spec_FillValue.mono _ _ _
   | exact LeO.none _
   | refine LeO.ite ?_ ?_
   | refine LeO.bind ?_ (fun _ => ?_)
set_option maxHeartbeats 8000000 in
set_option maxRecDepth 100000 in
theorem laws_FnExactFillValue.calls (k : Nat) (a0 : ByteArray) (A1 : Option Addr) (c1 : Nat) (l1 : List ByteArray) (r : Bool) (w : World) (hr1 : Kd.C Kd.string w A1 l1.length l1) (hc1 : l1.length ≤ c1) (h : laws_FnExactFillValue.f k a0 l1 = some r) :
  Calls Try.prog 3 #[.string a0, .slice A1 l1.length c1] w fun e w' => e = .returned (.bool r) ∧ Below w.heap.size w w' := by
 have HR1 := am_ hr1
 have HC1 := am_ hc1
 clear hr1 hc1
 have HB := am_ (Below.refl w.heap.size w)
 have H : (if (a0.size : Int) > 1048576 then (some true) else ((laws_szStringS.f k l1 1048576).bind fun t1001 => (if t1001 < 0 then (some true) else ((laws_toStringS.f k l1).bind fun t1002 => ((spec_FillValue.f k a0 t1002).bind fun t1005 => ((laws_toStringS.f k l1).bind fun t1006 => ((impl_FillValue.f k a0 t1006).bind fun t1009 => (if t1009.toList = t1005.toList then ((laws_toStringS.f k l1).bind fun t1010 => ((laws_eqStringS.f k t1006 t1010).bind fun t1013 => (if t1013 = true then (some true) else (none)))) else (none))))))))) = some r := h
 clear h
 by_cases c3 : (a0.size : Int) > 1048576
 ·rw [if_pos c3] at H
  have c3b0 : decide (1048576 < (a0.size : Int)) = true := decide_eq_true c3
  have c3b1 : decide (1048576 < a0.size) = true := decide_eq_true (by omega)
  clear c3
  obtain rfl := Option.some.inj H
  go_enter Try.func3, Try.ntmps3
  go_wp2
  go_ret
  exact ⟨rf_, bl_⟩
 ·rw [if_neg c3] at H
  have c3b0 : decide (1048576 < (a0.size : Int)) = false := decide_eq_false c3
  have c3b1 : decide (1048576 < a0.size) = false := decide_eq_false (by omega)
  clear c3
  replace H := Option.bind_eq_some_iff.mp H
  obtain ⟨t1001, A40, H⟩ := H
  replace H : (if t1001 < 0 then (some true) else ((laws_toStringS.f k l1).bind fun t1002 => ((spec_FillValue.f k a0 t1002).bind fun t1005 => ((laws_toStringS.f k l1).bind fun t1006 => ((impl_FillValue.f k a0 t1006).bind fun t1009 => (if t1009.toList = t1005.toList then ((laws_toStringS.f k l1).bind fun t1010 => ((laws_eqStringS.f k t1006 t1010).bind fun t1013 => (if t1013 = true then (some true) else (none)))) else (none))))))) = some r := H
  have A4 := am_ A40
  clear A40
  by_cases c5 : t1001 < 0
  ·rw [if_pos c5] at H
   have c5b0 : decide (t1001 < 0) = true := decide_eq_true c5
   clear c5
   obtain rfl := Option.some.inj H
   go_enter Try.func3, Try.ntmps3
   go_wp2_with (first | ((with_reducible refine gate_callee (f := 5) rfl ?_); refine goesL_ (some 14) rfl rfl Try.func5 (by kernel_rfl) rfl #[.slice A1 l1.length c1, .int .i64 1048576] rfl ag_ ?_; (with_reducible refine (laws_szStringS.calls k _ _ l1 1048576 t1001 _ ?side1 ?side2 A4.out).mono ?_); (case side1 => repeat (first | exact HR1.out | (with_reducible refine Kd.C_alloc ?_ _) | (with_reducible refine Kd.C_drewN ?_ _) | (with_reducible refine Kd.C_drew ?_))); (case side2 => exact HC1.out); rintro e w' ⟨rfl, ⟨nd, rfl⟩⟩; refine ⟨_, rfl, ?_⟩))
   go_ret
   exact ⟨rf_, bl_⟩
  ·rw [if_neg c5] at H
   have c5b0 : decide (t1001 < 0) = false := decide_eq_false c5
   clear c5
   replace H := Option.bind_eq_some_iff.mp H
   obtain ⟨t1002, A60, H⟩ := H
   replace H : ((spec_FillValue.f k a0 t1002).bind fun t1005 => ((laws_toStringS.f k l1).bind fun t1006 => ((impl_FillValue.f k a0 t1006).bind fun t1009 => (if t1009.toList = t1005.toList then ((laws_toStringS.f k l1).bind fun t1010 => ((laws_eqStringS.f k t1006 t1010).bind fun t1013 => (if t1013 = true then (some true) else (none)))) else (none))))) = some r := H
   have A6 := am_ A60
   clear A60
   replace H := Option.bind_eq_some_iff.mp H
   obtain ⟨t1005, A70, H⟩ := H
   replace H : ((laws_toStringS.f k l1).bind fun t1006 => ((impl_FillValue.f k a0 t1006).bind fun t1009 => (if t1009.toList = t1005.toList then ((laws_toStringS.f k l1).bind fun t1010 => ((laws_eqStringS.f k t1006 t1010).bind fun t1013 => (if t1013 = true then (some true) else (none)))) else (none)))) = some r := H
   have A7 := am_ A70
   clear A70
   replace H := Option.bind_eq_some_iff.mp H
   obtain ⟨t1006, A80, H⟩ := H
   replace H : ((impl_FillValue.f k a0 t1006).bind fun t1009 => (if t1009.toList = t1005.toList then ((laws_toStringS.f k l1).bind fun t1010 => ((laws_eqStringS.f k t1006 t1010).bind fun t1013 => (if t1013 = true then (some true) else (none)))) else (none))) = some r := H
   have A8 := am_ A80
   clear A80
   replace H := Option.bind_eq_some_iff.mp H
   obtain ⟨t1009, A90, H⟩ := H
   replace H : (if t1009.toList = t1005.toList then ((laws_toStringS.f k l1).bind fun t1010 => ((laws_eqStringS.f k t1006 t1010).bind fun t1013 => (if t1013 = true then (some true) else (none)))) else (none)) = some r := H
   have A9 := am_ A90
   clear A90
   by_cases c10 : t1009.toList = t1005.toList
   ·rw [if_pos c10] at H
    have c10b0 : (t1009.toList == t1005.toList) = true := beq_iff_eq.mpr c10
    have c10b1 : (t1009.toList != t1005.toList) = false := bne_eq_false_iff_eq.mpr c10
    clear c10
    replace H := Option.bind_eq_some_iff.mp H
    obtain ⟨t1010, A110, H⟩ := H
    replace H : ((laws_eqStringS.f k t1006 t1010).bind fun t1013 => (if t1013 = true then (some true) else (none))) = some r := H
    have A11 := am_ A110
    clear A110
    replace H := Option.bind_eq_some_iff.mp H
    obtain ⟨t1013, A120, H⟩ := H
    replace H : (if t1013 = true then (some true) else (none)) = some r := H
    have A12 := am_ A120
    clear A120
    by_cases c13 : t1013 = true
    ·subst c13
     have H1 : (some true) = some r := by rw [if_pos rfl] at H; exact H
     clear H
     have H := H1
     clear H1
     obtain rfl := Option.some.inj H
     go_enter Try.func3, Try.ntmps3
     go_wp2_with (first | ((with_reducible refine gate_callee (f := 5) rfl ?_); refine goesL_ (some 14) rfl rfl Try.func5 (by kernel_rfl) rfl #[.slice A1 l1.length c1, .int .i64 1048576] rfl ag_ ?_; (with_reducible refine (laws_szStringS.calls k _ _ l1 1048576 t1001 _ ?side1 ?side2 A4.out).mono ?_); (case side1 => repeat (first | exact HR1.out | (with_reducible refine Kd.C_alloc ?_ _) | (with_reducible refine Kd.C_drewN ?_ _) | (with_reducible refine Kd.C_drew ?_))); (case side2 => exact HC1.out); rintro e w' ⟨rfl, ⟨nd, rfl⟩⟩; refine ⟨_, rfl, ?_⟩) | ((with_reducible refine gate_callee (f := 7) rfl ?_); refine goesL_ (some 19) rfl rfl Try.func7 (by kernel_rfl) rfl #[.slice A1 l1.length c1] rfl ag_ ?_; (with_reducible refine (laws_toStringS.calls k _ _ l1 t1002 _ ?side1 ?side2 A6.out).mono ?_); (case side1 => repeat (first | exact HR1.out | (with_reducible refine Kd.C_alloc ?_ _) | (with_reducible refine Kd.C_drewN ?_ _) | (with_reducible refine Kd.C_drew ?_))); (case side2 => exact HC1.out); rintro e w14 ⟨v1003, rfl, ho0, hb⟩; refine ⟨_, rfl, ?_⟩; have HO1004 := am_ (Kd.R_lower ho0 (below_size bl_)); replace HB := am_ (below_step bl_ hb); (try clear hb); (try clear hb2); (try clear hk); (try clear hi); (try clear ho0); obtain ⟨Ao15, co15, eo15⟩ := Kd.R_slice HO1004.out; subst eo15) | ((with_reducible refine gate_callee (f := 6) rfl ?_); refine goesL_ (some 20) rfl rfl Try.func6 (by kernel_rfl) rfl #[.string a0, .slice Ao15 t1002.length co15] rfl ag_ ?_; (with_reducible refine (spec_FillValue.calls k a0 _ _ t1002 t1005 _ ?side1 ?side2 A7.out).mono ?_); (case side1 => exact cc_ (Kd.R_reads' HO1004.out).2.2); (case side2 => exact (Kd.R_reads' HO1004.out).2.1); rintro e w' ⟨rfl, ⟨nd, rfl⟩⟩; refine ⟨_, rfl, ?_⟩) | ((with_reducible refine gate_callee (f := 7) rfl ?_); refine goesL_ (some 22) rfl rfl Try.func7 (by kernel_rfl) rfl #[.slice A1 l1.length c1] rfl ag_ ?_; (with_reducible refine (laws_toStringS.calls k _ _ l1 t1006 _ ?side1 ?side2 A8.out).mono ?_); (case side1 => exact cc_ (Kd.C_below HR1.out bl_)); (case side2 => exact HC1.out); rintro e w16 ⟨v1007, rfl, ho0, hb⟩; refine ⟨_, rfl, ?_⟩; have HO1008 := am_ (Kd.R_lower (Kd.R_new' ho0 (Kd.R_lt (ro_ HO1004))) (below_size bl_)); replace HO1004 := am_ (Kd.R_elder' (ro_ HO1004) (Kd.R_base ho0) hb); replace HB := am_ (below_step bl_ hb); (try clear hb); (try clear hb2); (try clear hk); (try clear hi); (try clear ho0); obtain ⟨Ao17, co17, eo17⟩ := Kd.R_slice HO1008.out; subst eo17) | ((with_reducible refine gate_callee (f := 8) rfl ?_); refine goesL_ (some 25) rfl rfl Try.func8 (by kernel_rfl) rfl #[.string a0, .slice Ao17 t1006.length co17] rfl ag_ ?_; (with_reducible refine (impl_FillValue.calls k a0 _ _ t1006 t1009 _ ?side1 ?side2 A9.out).mono ?_); (case side1 => exact cc_ (Kd.R_reads' HO1008.out).2.2); (case side2 => exact (Kd.R_reads' HO1008.out).2.1); rintro e w18 ⟨rfl, hb⟩; refine ⟨_, rfl, ?_⟩; replace HO1004 := am_ (Kd.R_below (ro_ HO1004) hb); replace HO1008 := am_ (Kd.R_below (ro_ HO1008) hb); replace HB := am_ (below_step bl_ hb); (try clear hb); (try clear hb2); (try clear hk); (try clear hi)) | ((with_reducible refine gate_callee (f := 7) rfl ?_); refine goesL_ (some 31) rfl rfl Try.func7 (by kernel_rfl) rfl #[.slice A1 l1.length c1] rfl ag_ ?_; (with_reducible refine (laws_toStringS.calls k _ _ l1 t1010 _ ?side1 ?side2 A11.out).mono ?_); (case side1 => exact cc_ (Kd.C_below HR1.out HB.out)); (case side2 => exact HC1.out); rintro e w19 ⟨v1011, rfl, ho0, hb⟩; refine ⟨_, rfl, ?_⟩; have HO1012 := am_ (Kd.R_lower (Kd.R_new' (Kd.R_new' ho0 (Kd.R_lt (ro_ HO1004))) (Kd.R_lt (ro_ HO1008))) (below_size bl_)); replace HO1004 := am_ (Kd.R_elder' (ro_ HO1004) (Kd.R_base ho0) hb); replace HO1008 := am_ (Kd.R_elder' (ro_ HO1008) (Kd.R_base ho0) hb); replace HB := am_ (below_step bl_ hb); (try clear hb); (try clear hb2); (try clear hk); (try clear hi); (try clear ho0); obtain ⟨Ao20, co20, eo20⟩ := Kd.R_slice HO1012.out; subst eo20) | ((with_reducible refine gate_callee (f := 9) rfl ?_); refine goesL_ (some 32) rfl rfl Try.func9 (by kernel_rfl) rfl #[.slice Ao17 t1006.length co17, .slice Ao20 t1010.length co20] rfl ag_ ?_; (with_reducible refine (laws_eqStringS.calls k _ _ t1006 _ _ t1010 true _ ?side1 ?side2 ?side3 ?side4 A12.out).mono ?_); (case side1 => exact cc_ (Kd.R_reads' HO1008.out).2.2); (case side2 => exact (Kd.R_reads' HO1008.out).2.1); (case side3 => exact cc_ (Kd.R_reads' HO1012.out).2.2); (case side4 => exact (Kd.R_reads' HO1012.out).2.1); rintro e w' ⟨rfl, ⟨nd, rfl⟩⟩; refine ⟨_, rfl, ?_⟩))
     go_ret
     exact ⟨rf_, bl_⟩
    ·replace c13 := Bool.eq_false_iff.mpr c13
     subst c13
     have H1 : (none) = some r := by rw [if_neg (show ¬ (false = true) by decide)] at H; exact H
     clear H
     have H := H1
     clear H1
     exact absurd H (by simp)
   ·rw [if_neg c10] at H
    exact absurd H (by simp)

end Go.Proofs.Ytbejcmfpmoaddaa.Pr
