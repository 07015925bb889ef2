/- Functions of the given program as plain Lean functions, and that the machine's calls come to them; written by a program of this session; no condition but those that each theorem states. -/
import Derived.Test.YtlibcibpflfboaaDoorWRepsOne
import Derived.Test.YtlibcibpflfboaaDoorPrx0
namespace Go.Proofs.YtlibcibpflfboaaDoor.Pr
open Go.RowKit Go.Proofs.YtlibcibpflfboaaDoorW.PrintWords Go.Proofs.YtlibcibpflfboaaDoorW.PrintLast Go.Proofs.YtlibcibpflfboaaDoorW.PrintMore
attribute [local go_sem] max2_int min2_int max_two min_two max_three min_three max_four min_four   -- for this text's walks alone
set_option linter.unusedVariables false
set_option linter.unusedSimpArgs false

/-! ### spec_l2Letter: function 25 -/
def spec_l2Letter.f (a0 : Int) : Option (Bool) := if a0 ≥ 97 then (if a0 ≤ 122 then (some true) else (if a0 ≥ 65 then (some (decide (a0 ≤ 90))) else (some false))) else (if a0 ≥ 65 then (some (decide (a0 ≤ 90))) else (some false))
set_option maxHeartbeats 8000000 in
set_option maxRecDepth 100000 in
theorem spec_l2Letter.calls (a0 : Int) (r : Bool) (w : World) (h : spec_l2Letter.f a0 = some r) :
  Calls Tryd.prog 25 #[.int .u8 a0] w fun e w' => e = .returned (.bool r) ∧ Drawn0 w w' := by
 have H := h; clear h; unfold spec_l2Letter.f at H
 by_cases c2 : a0 ≥ 97
 ·rw [if_pos c2] at H; have c2b0 : decide (97 ≤ a0) = true := decide_eq_true c2; clear c2
  by_cases c3 : a0 ≤ 122
  ·rw [if_pos c3] at H; have c3b0 := decide_eq_true c3; clear c3; obtain rfl := si_ H; go_enter Tryd.func25, Tryd.ntmps25; go_wp2; go_ret; exact ⟨by first | rfl | (simp; done) | (simp [*]; done), by repeat (first | exact Drawn0.refl _ | apply Drawn0.step)⟩
  ·rw [if_neg c3] at H; have c3b0 := decide_eq_false c3; clear c3
   by_cases c4 : a0 ≥ 65
   ·rw [if_pos c4] at H; have c4b0 : decide (65 ≤ a0) = true := decide_eq_true c4; clear c4; obtain rfl := si_ H; go_enter Tryd.func25, Tryd.ntmps25; go_wp2; go_ret; exact ⟨by first | rfl | (simp; done) | (simp [*]; done), by repeat (first | exact Drawn0.refl _ | apply Drawn0.step)⟩
   ·rw [if_neg c4] at H; have c4b0 : decide (65 ≤ a0) = false := decide_eq_false c4; clear c4; obtain rfl := si_ H; go_enter Tryd.func25, Tryd.ntmps25; go_wp2; go_ret; exact ⟨by first | rfl | (simp; done) | (simp [*]; done), by repeat (first | exact Drawn0.refl _ | apply Drawn0.step)⟩
 ·rw [if_neg c2] at H; have c2b0 : decide (97 ≤ a0) = false := decide_eq_false c2; clear c2
  by_cases c5 : a0 ≥ 65
  ·rw [if_pos c5] at H; have c5b0 : decide (65 ≤ a0) = true := decide_eq_true c5; clear c5; obtain rfl := si_ H; go_enter Tryd.func25, Tryd.ntmps25; go_wp2; go_ret; exact ⟨by first | rfl | (simp; done) | (simp [*]; done), by repeat (first | exact Drawn0.refl _ | apply Drawn0.step)⟩
  ·rw [if_neg c5] at H; have c5b0 : decide (65 ≤ a0) = false := decide_eq_false c5; clear c5; obtain rfl := si_ H; go_enter Tryd.func25, Tryd.ntmps25; go_wp2; go_ret; exact ⟨by first | rfl | (simp; done) | (simp [*]; done), by repeat (first | exact Drawn0.refl _ | apply Drawn0.step)⟩

/-! ### spec_l2Digit: function 26 -/
def spec_l2Digit.f (a0 : Int) : Option (Bool) := if a0 ≥ 48 then (some (decide (a0 ≤ 57))) else (some false)
set_option maxHeartbeats 8000000 in
set_option maxRecDepth 100000 in
theorem spec_l2Digit.calls (a0 : Int) (r : Bool) (w : World) (h : spec_l2Digit.f a0 = some r) :
  Calls Tryd.prog 26 #[.int .u8 a0] w fun e w' => e = .returned (.bool r) ∧ Drawn0 w w' := by
 have H := h; clear h; unfold spec_l2Digit.f at H
 by_cases c2 : a0 ≥ 48
 ·rw [if_pos c2] at H; have c2b0 : decide (48 ≤ a0) = true := decide_eq_true c2; clear c2; obtain rfl := si_ H; go_enter Tryd.func26, Tryd.ntmps26; go_wp2; go_ret; exact ⟨by first | rfl | (simp; done) | (simp [*]; done), by repeat (first | exact Drawn0.refl _ | apply Drawn0.step)⟩
 ·rw [if_neg c2] at H; have c2b0 : decide (48 ≤ a0) = false := decide_eq_false c2; clear c2; obtain rfl := si_ H; go_enter Tryd.func26, Tryd.ntmps26; go_wp2; go_ret; exact ⟨by first | rfl | (simp; done) | (simp [*]; done), by repeat (first | exact Drawn0.refl _ | apply Drawn0.step)⟩

/-! ### spec_l2NameAt: function 14 -/
def spec_l2NameAt.l0 : Nat → ByteArray → Int → Option (Int)
 | 0, _, _ => none
 | k + 1, x0, x1 => if x1 < (x0.size : Int) then (if 0 ≤ x1 then ((spec_l2Letter.f (bt x0 x1)).bind fun t1001 => (if t1001 = true then (spec_l2NameAt.l0 k x0 (wrap64 (x1 + 1))) else ((spec_l2Digit.f (bt x0 x1)).bind fun t1002 => (if t1002 = true then (spec_l2NameAt.l0 k x0 (wrap64 (x1 + 1))) else (if (bt x0 x1) = 95 then (spec_l2NameAt.l0 k x0 (wrap64 (x1 + 1))) else (some x1)))))) else (none)) else (some x1)
def spec_l2NameAt.f (k : Nat) (a0 : ByteArray) (a1 : Int) : Option (Int) := spec_l2NameAt.l0 k a0 a1
theorem spec_l2NameAt.mono_l : ∀ k, (∀ y0 y1, LeO (spec_l2NameAt.l0 k y0 y1) (spec_l2NameAt.l0 (k + 1) y0 y1))
 | 0 => fun _ _ r h => by simp [spec_l2NameAt.l0] at h
 | k + 1 => by
  have ih0 := spec_l2NameAt.mono_l k
  ·intro y0 y1
   unfold spec_l2NameAt.l0
   repeat' with_reducible first | apply ih0 | apply LeO.refl | apply LeO.none | apply LeO.ite | refine LeO.bind ?_ (fun _ => ?_)
theorem spec_l2NameAt.mono : ∀ a0 a1 k, LeO (spec_l2NameAt.f k a0 a1) (spec_l2NameAt.f (k + 1) a0 a1) := by
 intro a0 a1 k
 have ih0 := spec_l2NameAt.mono_l k
 unfold spec_l2NameAt.f
 repeat' with_reducible first | apply ih0 | apply LeO.refl | apply LeO.none | apply LeO.ite | refine LeO.bind ?_ (fun _ => ?_)
set_option maxHeartbeats 8000000 in
set_option maxRecDepth 100000 in
theorem spec_l2NameAt.calls (k : Nat) (a0 : ByteArray) (a1 : Int) (r : Int) (w : World) (h : spec_l2NameAt.f k a0 a1 = some r) :
  Calls Tryd.prog 14 #[.string a0, .int .i64 a1] w fun e w' => e = .returned (.int .i64 r) ∧ Drawn0 w w' := by
 have H := h; clear h; unfold spec_l2NameAt.f at H; have H' := am_ H; clear H; go_enter Tryd.func14, Tryd.ntmps14; go_wp2
 go_loopg [1] k (fun kq v1 w' => ∃ (x1_1 : Int), v1 = .int .i64 x1_1 ∧ Aside0 (spec_l2NameAt.l0 kq a0 x1_1 = some r) ∧ Aside0 (kq ≤ k) ∧ Drawn0 w w')
 case atStart => exact ⟨(a1), rs_, H', ⟨Nat.le_refl _⟩, by repeat (first | exact Drawn0.refl _ | apply Drawn0.step)⟩
 case round =>
  clear H'; obtain ⟨x1_1, rfl, HA, HK1, ⟨m1, rfl⟩⟩ := hrel
  cases gk with
  | zero => exact absurd HA.out (by simp [spec_l2NameAt.l0])
  | succ k1 =>
   have H := HA.out; clear HA; simp only [spec_l2NameAt.l0] at H
   by_cases c3 : x1_1 < (a0.size : Int)
   ·rw [if_pos c3] at H; have c3b0 := decide_eq_true c3; clear c3; replace H := is_ H; obtain ⟨c4, H⟩ := H; have c4b0 := decide_eq_true c4; clear c4; replace H := bs_ H; obtain ⟨t1001, A6, H⟩ := H
    by_cases c7 : t1001 = true
    ·subst c7; replace H := it_ H; have H' := am_ H; clear H; have p5 : 0 ≤ (x1_1 : Int) := od_; have q5 : x1_1 < (a0.size : Int) := od_; have hx5 := bt_at a0 x1_1; replace p5 := eq_true p5; replace q5 := eq_true q5; go_wp2_with (first | (go_at_call 25; (with_reducible refine (spec_l2Letter.calls (bt a0 x1_1) true _ A6.out).mono ?_); rintro e w' ⟨rfl, ⟨nd, rfl⟩⟩)); go_roundg k1
     case measure => have := HK1.out; omega
     case rel => exact ⟨(wrap64 (x1_1 + 1)), rs_, H', ⟨by have := HK1.out; omega⟩, by repeat (first | exact Drawn0.refl _ | apply Drawn0.step)⟩
    ·replace c7 := Bool.eq_false_iff.mpr c7; subst c7; replace H := if_ H; replace H := bs_ H; obtain ⟨t1002, A9, H⟩ := H
     by_cases c10 : t1002 = true
     ·subst c10; replace H := it_ H; have H' := am_ H; clear H; have p5 : 0 ≤ (x1_1 : Int) := od_; have q5 : x1_1 < (a0.size : Int) := od_; have hx5 := bt_at a0 x1_1; replace p5 := eq_true p5; replace q5 := eq_true q5; go_wp2_with (first | (go_at_call 25; (with_reducible refine (spec_l2Letter.calls (bt a0 x1_1) false _ A6.out).mono ?_); rintro e w' ⟨rfl, ⟨nd, rfl⟩⟩; have p8 : 0 ≤ (x1_1 : Int) := od_; have q8 : x1_1 < (a0.size : Int) := od_; have hx8 := bt_at a0 x1_1; replace p8 := eq_true p8; replace q8 := eq_true q8) | (go_at_call 26; (with_reducible refine (spec_l2Digit.calls (bt a0 x1_1) true _ A9.out).mono ?_); rintro e w' ⟨rfl, ⟨nd, rfl⟩⟩)); go_roundg k1
      case measure => have := HK1.out; omega
      case rel => exact ⟨(wrap64 (x1_1 + 1)), rs_, H', ⟨by have := HK1.out; omega⟩, by repeat (first | exact Drawn0.refl _ | apply Drawn0.step)⟩
     ·replace c10 := Bool.eq_false_iff.mpr c10; subst c10; replace H := if_ H
      by_cases c12 : (bt a0 x1_1) = 95
      ·rw [if_pos c12] at H; have c12b0 := eb_ c12; have c12b1 := en_ c12; clear c12; have H' := am_ H; clear H; have p5 : 0 ≤ (x1_1 : Int) := od_; have q5 : x1_1 < (a0.size : Int) := od_; have hx5 := bt_at a0 x1_1; replace p5 := eq_true p5; replace q5 := eq_true q5; go_wp2_with (first | (go_at_call 25; (with_reducible refine (spec_l2Letter.calls (bt a0 x1_1) false _ A6.out).mono ?_); rintro e w' ⟨rfl, ⟨nd, rfl⟩⟩; have p8 : 0 ≤ (x1_1 : Int) := od_; have q8 : x1_1 < (a0.size : Int) := od_; have hx8 := bt_at a0 x1_1; replace p8 := eq_true p8; replace q8 := eq_true q8) | (go_at_call 26; (with_reducible refine (spec_l2Digit.calls (bt a0 x1_1) false _ A9.out).mono ?_); rintro e w' ⟨rfl, ⟨nd, rfl⟩⟩; have p11 : 0 ≤ (x1_1 : Int) := od_; have q11 : x1_1 < (a0.size : Int) := od_; have hx11 := bt_at a0 x1_1; replace p11 := eq_true p11; replace q11 := eq_true q11)); go_roundg k1
       case measure => have := HK1.out; omega
       case rel => exact ⟨(wrap64 (x1_1 + 1)), rs_, H', ⟨by have := HK1.out; omega⟩, by repeat (first | exact Drawn0.refl _ | apply Drawn0.step)⟩
      ·rw [if_neg c12] at H; have c12b0 := nb_ c12; have c12b1 := nn_ c12; obtain rfl := si_ H; have p5 : 0 ≤ (x1_1 : Int) := od_; have q5 : x1_1 < (a0.size : Int) := od_; have hx5 := bt_at a0 x1_1; replace p5 := eq_true p5; replace q5 := eq_true q5; go_wp2_with (first | (go_at_call 25; (with_reducible refine (spec_l2Letter.calls (bt a0 x1_1) false _ A6.out).mono ?_); rintro e w' ⟨rfl, ⟨nd, rfl⟩⟩; have p8 : 0 ≤ (x1_1 : Int) := od_; have q8 : x1_1 < (a0.size : Int) := od_; have hx8 := bt_at a0 x1_1; replace p8 := eq_true p8; replace q8 := eq_true q8) | (go_at_call 26; (with_reducible refine (spec_l2Digit.calls (bt a0 x1_1) false _ A9.out).mono ?_); rintro e w' ⟨rfl, ⟨nd, rfl⟩⟩; have p11 : 0 ≤ (x1_1 : Int) := od_; have q11 : x1_1 < (a0.size : Int) := od_; have hx11 := bt_at a0 x1_1; replace p11 := eq_true p11; replace q11 := eq_true q11)); go_ret; exact ⟨by first | rfl | (simp; done) | (simp [*]; done), by repeat (first | exact Drawn0.refl _ | apply Drawn0.step)⟩
   ·rw [if_neg c3] at H; have c3b0 := decide_eq_false c3; clear c3; obtain rfl := si_ H; go_wp2; go_ret; exact ⟨by first | rfl | (simp; done) | (simp [*]; done), by repeat (first | exact Drawn0.refl _ | apply Drawn0.step)⟩

/-! ### spec_l2Ops: function 15 -/
def spec_l2Ops.f  : Option (List ByteArray) := some (([(⟨#[]⟩ : ByteArray), (⟨#[61]⟩ : ByteArray), (⟨#[33, 61]⟩ : ByteArray), (⟨#[61, 126]⟩ : ByteArray), (⟨#[33, 126]⟩ : ByteArray)] : List ByteArray))
set_option maxHeartbeats 8000000 in
set_option maxRecDepth 100000 in
theorem spec_l2Ops.calls  (r : List ByteArray) (w : World) (h : spec_l2Ops.f  = some r) :
  Calls Tryd.prog 15 #[] w fun e w' => ∃ v0_ : Value, e = .returned (v0_) ∧ Kd.R Kd.string 9 w' w.heap.size (fun _ => True) v0_ r ∧ Below w.heap.size w w' := by
 have HB := am_ (Below.refl w.heap.size w); have H := h; clear h; unfold spec_l2Ops.f at H; obtain ⟨y1001, hy1001⟩ : ∃ y_ : List ByteArray, y_ = (([(⟨#[]⟩ : ByteArray), (⟨#[61]⟩ : ByteArray), (⟨#[33, 61]⟩ : ByteArray), (⟨#[61, 126]⟩ : ByteArray), (⟨#[33, 126]⟩ : ByteArray)] : List ByteArray)) := ⟨_, rfl⟩; replace H : (some y1001) = some r := by first | (rw [hy1001]; with_reducible exact H) | (have H2_ := (Option.bind_some _ _).symm.trans H; rw [hy1001]; with_reducible exact H2_) | (have H2_ := (Option.bind_some _ _).symm.trans H; with_reducible exact H2_) | with_reducible exact H | (rw [hy1001]; exact H) | exact H
 have Ny1001 := am_ hy1001; clear hy1001; obtain rfl := si_ H; go_enter Tryd.func15, Tryd.ntmps15; go_wp2_with (first | ((with_reducible refine gate_dst (N := 1) rfl ?_); refine Kd.R_lit Kd.string _ 9 ?hg (N := 1) ?hd (xs := ([(⟨#[]⟩ : ByteArray), (⟨#[61]⟩ : ByteArray), (⟨#[33, 61]⟩ : ByteArray), (⟨#[61, 126]⟩ : ByteArray), (⟨#[33, 126]⟩ : ByteArray)] : List ByteArray)) (inner := [.string (⟨#[]⟩ : ByteArray), .string (⟨#[61]⟩ : ByteArray), .string (⟨#[33, 61]⟩ : ByteArray), .string (⟨#[61, 126]⟩ : ByteArray), .string (⟨#[33, 126]⟩ : ByteArray)]) (ok := fun _ => True) (okp := fun _ => True) ?hr ?hp (fun _ hk => hk) trivial (Below.refl _ _) (Nat.le_refl _) (by simp) ?_; (case hd => rfl); (case hg => rfl); (case hr => first | (go_simp; done) | (go_simp; rfl)); (case hp => exact (Reps.one (show Kd.M Kd.string _ _ _ (⟨#[]⟩ : ByteArray) [.string (⟨#[]⟩ : ByteArray)] from rfl) (Reps.one (show Kd.M Kd.string _ _ _ (⟨#[61]⟩ : ByteArray) [.string (⟨#[61]⟩ : ByteArray)] from rfl) (Reps.one (show Kd.M Kd.string _ _ _ (⟨#[33, 61]⟩ : ByteArray) [.string (⟨#[33, 61]⟩ : ByteArray)] from rfl) (Reps.one (show Kd.M Kd.string _ _ _ (⟨#[61, 126]⟩ : ByteArray) [.string (⟨#[61, 126]⟩ : ByteArray)] from rfl) (Reps.one (show Kd.M Kd.string _ _ _ (⟨#[33, 126]⟩ : ByteArray) [.string (⟨#[33, 126]⟩ : ByteArray)] from rfl) (Reps.none _ _))))))); intro v1002 w1 ho2 hb hg_ hnew_; clear hg_ hnew_; (first | rw [← Ny1001.out] at ho2 | (simp only [Int.reduceToNat] at ho2; rw [← Ny1001.out] at ho2)); have HO1003 := am_ (Kd.R_lower ho2 (below_size bl_)); replace HB := am_ (below_step bl_ hb); clear hb ho2)); go_ret; exact ⟨_, rf_, by (with_reducible repeat (first | apply Kd.R_alloc | apply Kd.R_drewN | apply Kd.R_drew)); exact HO1003.out, bl_⟩

/-! ### spec_l2Head: function 16 -/
def spec_l2Head.f (a0 : ByteArray) (a1 : ByteArray) : Option (Bool) := if (a0.size : Int) ≥ (a1.size : Int) then (if 0 ≤ (a1.size : Int) then (if (a1.size : Int) ≤ (a0.size : Int) then (some ((a0.extract 0 ((a1.size : Int) : Int).toNat).toList == a1.toList)) else (none)) else (none)) else (some false)
set_option maxHeartbeats 8000000 in
set_option maxRecDepth 100000 in
theorem spec_l2Head.calls (a0 : ByteArray) (a1 : ByteArray) (r : Bool) (w : World) (h : spec_l2Head.f a0 a1 = some r) :
  Calls Tryd.prog 16 #[.string a0, .string a1] w fun e w' => e = .returned (.bool r) ∧ Drawn0 w w' := by
 have H := h; clear h; unfold spec_l2Head.f at H
 by_cases c3 : (a0.size : Int) ≥ (a1.size : Int)
 ·rw [if_pos c3] at H; have c3b0 : decide ((a1.size : Int) ≤ (a0.size : Int)) = true := decide_eq_true c3; have c3b1 : decide (a1.size ≤ a0.size) = true := decide_eq_true (Int.ofNat_le.mp c3); clear c3; replace H := is_ H; obtain ⟨c4, H⟩ := H; have c4b0 := eq_true c4; have c4b1 := decide_eq_true c4; clear c4; replace H := is_ H; obtain ⟨c5, H⟩ := H; have c5b0 := eq_true c5; have c5b1 := decide_eq_true c5; clear c5; obtain rfl := si_ H; go_enter Tryd.func16, Tryd.ntmps16; go_wp2; go_ret; exact ⟨by first | rfl | (simp; done) | (simp [*]; done), by repeat (first | exact Drawn0.refl _ | apply Drawn0.step)⟩
 ·rw [if_neg c3] at H; have c3b0 : decide ((a1.size : Int) ≤ (a0.size : Int)) = false := decide_eq_false c3; have c3b1 : decide (a1.size ≤ a0.size) = false := decide_eq_false (fun h => c3 (Int.ofNat_le.mpr h)); clear c3; obtain rfl := si_ H; go_enter Tryd.func16, Tryd.ntmps16; go_wp2; go_ret; exact ⟨by first | rfl | (simp; done) | (simp [*]; done), by repeat (first | exact Drawn0.refl _ | apply Drawn0.step)⟩

/-! ### spec_l2Unquote: function 17 -/
mutual
def spec_l2Unquote.j0 : Nat → ByteArray → Int → Bool → Option (ByteArray × Int)
 | 0, _, _, _ => none
 | k + 1, x0, x1, x17 => if x17 = true then (some ((⟨#[]⟩ : ByteArray), (-1))) else (spec_l2Unquote.l0 k x0 ([] : List Int) (wrap64 (x1 + 1)))
def spec_l2Unquote.l0 : Nat → ByteArray → List Int → Int → Option (ByteArray × Int)
 | 0, _, _, _ => none
 | k + 1, x0, x6, x7 => if x7 < (x0.size : Int) then (if 0 ≤ x7 then (if (bt x0 x7) = 34 then (some (strOfNums x6, wrap64 (x7 + 1))) else (if (bt x0 x7) = 92 then (if (wrap64 (x7 + 1)) = (x0.size : Int) then (some ((⟨#[]⟩ : ByteArray), (-1))) else (if 0 ≤ (wrap64 (x7 + 1)) then (if (wrap64 (x7 + 1)) < (x0.size : Int) then (if (bt x0 (wrap64 (x7 + 1))) = 34 then (if x6.length < 140737488355328 then (spec_l2Unquote.l0 k x0 (x6 ++ [bt x0 (wrap64 (x7 + 1))]) (wrap64 ((wrap64 (x7 + 1)) + 1))) else (none)) else (if (bt x0 (wrap64 (x7 + 1))) = 92 then (if x6.length < 140737488355328 then (spec_l2Unquote.l0 k x0 (x6 ++ [bt x0 (wrap64 (x7 + 1))]) (wrap64 ((wrap64 (x7 + 1)) + 1))) else (none)) else (some ((⟨#[]⟩ : ByteArray), (-1))))) else (none)) else (none))) else (if x6.length < 140737488355328 then (spec_l2Unquote.l0 k x0 (x6 ++ [bt x0 x7]) (wrap64 (x7 + 1))) else (none)))) else (none)) else (some ((⟨#[]⟩ : ByteArray), (-1)))
end
def spec_l2Unquote.f (k : Nat) (a0 : ByteArray) (a1 : Int) : Option (ByteArray × Int) := if a1 ≥ (a0.size : Int) then (spec_l2Unquote.j0 k a0 a1 true) else (if 0 ≤ a1 then (if a1 < (a0.size : Int) then (spec_l2Unquote.j0 k a0 a1 ((bt a0 a1) != 34)) else (none)) else (none))
theorem spec_l2Unquote.mono_l : ∀ k, (∀ y0 y1 y2, LeO (spec_l2Unquote.j0 k y0 y1 y2) (spec_l2Unquote.j0 (k + 1) y0 y1 y2)) ∧ (∀ y0 y1 y2, LeO (spec_l2Unquote.l0 k y0 y1 y2) (spec_l2Unquote.l0 (k + 1) y0 y1 y2))
 | 0 => ⟨fun _ _ _ r h => by simp [spec_l2Unquote.j0] at h, fun _ _ _ r h => by simp [spec_l2Unquote.l0] at h⟩
 | k + 1 => by
  obtain ⟨ih0, ih1⟩ := spec_l2Unquote.mono_l k
  refine ⟨?_, ?_⟩
  ·intro y0 y1 y2
   unfold spec_l2Unquote.j0
   repeat' with_reducible first | apply ih0 | apply ih1 | apply LeO.refl | apply LeO.none | apply LeO.ite | refine LeO.bind ?_ (fun _ => ?_)
  ·intro y0 y1 y2
   unfold spec_l2Unquote.l0
   repeat' with_reducible first | apply ih0 | apply ih1 | apply LeO.refl | apply LeO.none | apply LeO.ite | refine LeO.bind ?_ (fun _ => ?_)
theorem spec_l2Unquote.mono : ∀ a0 a1 k, LeO (spec_l2Unquote.f k a0 a1) (spec_l2Unquote.f (k + 1) a0 a1) := by
 intro a0 a1 k
 obtain ⟨ih0, ih1⟩ := spec_l2Unquote.mono_l k
 unfold spec_l2Unquote.f
 repeat' with_reducible first | apply ih0 | apply ih1 | apply LeO.refl | apply LeO.none | apply LeO.ite | refine LeO.bind ?_ (fun _ => ?_)
set_option maxHeartbeats 8000000 in
set_option maxRecDepth 100000 in
theorem spec_l2Unquote.calls (k : Nat) (a0 : ByteArray) (a1 : Int) (r1 : ByteArray) (r2 : Int) (w : World) (h : spec_l2Unquote.f k a0 a1 = some (r1, r2)) :
  Calls Tryd.prog 17 #[.string a0, .int .i64 a1] w fun e w' => e = .returned (.tuple #[.string r1, .int .i64 r2]) ∧ Below w.heap.size w w' := by
 have HB := am_ (Below.refl w.heap.size w); have H : (if a1 ≥ (a0.size : Int) then (spec_l2Unquote.j0 k a0 a1 true) else (if 0 ≤ a1 then (if a1 < (a0.size : Int) then (spec_l2Unquote.j0 k a0 a1 ((bt a0 a1) != 34)) else (none)) else (none))) = some (r1, r2) := h; clear h; have HC3 := am_ H; clear H; go_enter Tryd.func17, Tryd.ntmps17; go_upto_region 1 with (fail)
 go_cut [17] (fun v17 wc => ∃ (kq : Nat) (x17_2 : Bool), v17 = .bool x17_2 ∧ Aside0 (spec_l2Unquote.j0 kq a0 a1 x17_2 = some (r1, r2)) ∧ Aside0 (kq ≤ k) ∧ Aside0 (Below w.heap.size w wc))
 case first =>
  have H := HC3.out; clear HC3
  by_cases c4 : a1 ≥ (a0.size : Int)
  ·rw [if_pos c4] at H; have c4b0 : decide ((a0.size : Int) ≤ a1) = true := decide_eq_true c4; clear c4; (first | rw [c4b0] | (simp only [i64_w, i32_w]; rw [c4b0]) | skip); have H' := am_ H; clear H; go_wp2; go_meet
   case rel => exact ⟨_, (true), rs_, H', ⟨by first | omega | exact Nat.le_refl _⟩, ⟨bl_⟩⟩
  ·rw [if_neg c4] at H; have c4b0 : decide ((a0.size : Int) ≤ a1) = false := decide_eq_false c4; clear c4; (first | rw [c4b0] | (simp only [i64_w, i32_w]; rw [c4b0]) | skip); replace H := is_ H; obtain ⟨c5, H⟩ := H; have c5b0 := decide_eq_true c5; clear c5; replace H := is_ H; obtain ⟨c6, H⟩ := H; have c6b0 := decide_eq_true c6; clear c6; have H' := am_ H; clear H; have p7 : 0 ≤ (a1 : Int) := od_; have q7 : a1 < (a0.size : Int) := od_; have hx7 := bt_at a0 a1; replace p7 := eq_true p7; replace q7 := eq_true q7; go_wp2; go_meet
   case rel => exact ⟨_, (((bt a0 a1) != 34)), rs_, H', ⟨by first | omega | exact Nat.le_refl _⟩, ⟨bl_⟩⟩
 case rest =>
  clear HC3; obtain ⟨kq, x17_2, rfl, HA, HJ2, HB⟩ := hcut
  cases kq with
  | zero => exact absurd HA.out (by simp [spec_l2Unquote.j0])
  | succ kj2 =>
   have H := HA.out; clear HA; simp only [spec_l2Unquote.j0] at H
   by_cases c8 : x17_2 = true
   ·subst c8; replace H := it_ H; simp only [Option.some.injEq, Prod.mk.injEq] at H; obtain ⟨rfl, rfl⟩ := H; go_wp2; go_ret2; exact ⟨rf_, bl_⟩
   ·replace c8 := Bool.eq_false_iff.mpr c8; subst c8; replace H := if_ H; have H' := am_ H; clear H; go_wp2
    go_loopg [6, 7] kj2 (fun kq v6 v7 w' => ∃ (x6_2 : List Int) (x7_2 : Int), v7 = .int .i64 x7_2 ∧ Aside0 (spec_l2Unquote.l0 kq a0 x6_2 x7_2 = some (r1, r2)) ∧ Aside0 (kq ≤ kj2) ∧ Aside0 (Kd.R (Kd.int .u8) 5 w' w.heap.size (fun _ => True) v6 x6_2) ∧ Aside0 (Below w.heap.size w w'))
    case atStart => exact ⟨(([] : List Int)), (wrap64 (a1 + 1)), rs_, H', ⟨Nat.le_refl _⟩, ⟨ni_⟩, ⟨bl_⟩⟩
    case round =>
     clear H'; (try clear c8); obtain ⟨x6_2, x7_2, rfl, HA, HK2, HO_6, HB⟩ := hrel
     cases gk with
     | zero => exact absurd HA.out (by simp [spec_l2Unquote.l0])
     | succ k2 =>
      have H := HA.out; clear HA; simp only [spec_l2Unquote.l0] at H
      by_cases c9 : x7_2 < (a0.size : Int)
      ·rw [if_pos c9] at H; have c9b0 := decide_eq_true c9; clear c9; replace H := is_ H; obtain ⟨c10, H⟩ := H; have c10b0 := decide_eq_true c10; clear c10
       by_cases c12 : (bt a0 x7_2) = 34
       ·rw [if_pos c12] at H; have c12b0 := eb_ c12; have c12b1 := en_ c12; clear c12; simp only [Option.some.injEq, Prod.mk.injEq] at H; obtain ⟨rfl, rfl⟩ := H; have p11 : 0 ≤ (x7_2 : Int) := od_; have q11 : x7_2 < (a0.size : Int) := od_; have hx11 := bt_at a0 x7_2; replace p11 := eq_true p11; replace q11 := eq_true q11; have hcv13 := own_string (P := Tryd.prog) Tryd.underlying50 Tryd.underlying5 Tryd.underlying9 (Kd.own_of_R HO_6.out); have hcv13d := fun n_ : Nat => own_string (P := Tryd.prog) Tryd.underlying50 Tryd.underlying5 Tryd.underlying9 (Kd.own_of_R (Kd.R_drewN HO_6.out n_))
        have hcv13e := own_string (P := Tryd.prog) Tryd.underlying50 Tryd.underlying5 Tryd.underlying9 (Kd.own_of_R (Kd.R_drew HO_6.out)); go_wp2; go_ret2; exact ⟨rf_, bl_⟩
       ·rw [if_neg c12] at H; have c12b0 := nb_ c12; have c12b1 := nn_ c12
        by_cases c14 : (bt a0 x7_2) = 92
        ·rw [if_pos c14] at H; have c14b0 := eb_ c14; have c14b1 := en_ c14; clear c14
         by_cases c15 : (wrap64 (x7_2 + 1)) = (a0.size : Int)
         ·rw [if_pos c15] at H; have c15b0 := eb_ c15; have c15b1 := en_ c15; clear c15; simp only [Option.some.injEq, Prod.mk.injEq] at H; obtain ⟨rfl, rfl⟩ := H; have p11 : 0 ≤ (x7_2 : Int) := od_; have q11 : x7_2 < (a0.size : Int) := od_; have hx11 := bt_at a0 x7_2; replace p11 := eq_true p11; replace q11 := eq_true q11; go_wp2; go_ret2; exact ⟨rf_, bl_⟩
         ·rw [if_neg c15] at H; have c15b0 := nb_ c15; have c15b1 := nn_ c15; obtain ⟨ji16, hji16⟩ : ∃ j_ : Int, (wrap64 (x7_2 + 1)) = j_ := ⟨_, rfl⟩; replace H : (if 0 ≤ (ji16) then (if (ji16) < (a0.size : Int) then (if (bt a0 (ji16)) = 34 then (if x6_2.length < 140737488355328 then (spec_l2Unquote.l0 k2 a0 (x6_2 ++ [bt a0 (ji16)]) (wrap64 ((ji16) + 1))) else (none)) else (if (bt a0 (ji16)) = 92 then (if x6_2.length < 140737488355328 then (spec_l2Unquote.l0 k2 a0 (x6_2 ++ [bt a0 (ji16)]) (wrap64 ((ji16) + 1))) else (none)) else (some ((⟨#[]⟩ : ByteArray), (-1))))) else (none)) else (none)) = some (r1, r2) := by first | (rw [hji16] at H; exact H) | (simp only [hji16] at H ⊢; exact H)
          (try rw [hji16] at c15b0); (try rw [hji16] at c15b1); have hji16w : (IntKind.i64.wrap (x7_2 + 1)) = ji16 := (i64_w _).trans hji16; replace H := is_ H; obtain ⟨c17, H⟩ := H; have c17b0 := decide_eq_true c17; clear c17; replace H := is_ H; obtain ⟨c18, H⟩ := H; have c18b0 := decide_eq_true c18; clear c18
          by_cases c20 : (bt a0 (ji16)) = 34
          ·rw [if_pos c20] at H; have c20b0 := eb_ c20; have c20b1 := en_ c20; clear c20; replace H := is_ H; obtain ⟨c22, H⟩ := H; have LMc22 := am_ c22; clear c22; obtain ⟨y1001, hy1001⟩ : ∃ y_ : List Int, y_ = (x6_2 ++ [bt a0 (ji16)]) := ⟨_, rfl⟩; replace H : (spec_l2Unquote.l0 k2 a0 y1001 (wrap64 ((ji16) + 1))) = some (r1, r2) := by first | (rw [hy1001]; with_reducible exact H) | (have H2_ := (Option.bind_some _ _).symm.trans H; rw [hy1001]; with_reducible exact H2_) | (have H2_ := (Option.bind_some _ _).symm.trans H; with_reducible exact H2_) | with_reducible exact H | (rw [hy1001]; exact H) | exact H
           have Ny1001 := am_ hy1001; clear hy1001; have H' := am_ H; clear H; have p11 : 0 ≤ (x7_2 : Int) := od_; have q11 : x7_2 < (a0.size : Int) := od_; have hx11 := bt_at a0 x7_2; replace p11 := eq_true p11; replace q11 := eq_true q11; have p19 : 0 ≤ ((ji16) : Int) := od_; have q19 : (ji16) < (a0.size : Int) := od_; have hx19 := bt_at a0 (ji16); replace p19 := eq_true p19; replace q19 := eq_true q19; have p21 : 0 ≤ ((ji16) : Int) := od_; have q21 : (ji16) < (a0.size : Int) := od_; have hx21 := bt_at a0 (ji16); replace p21 := eq_true p21; replace q21 := eq_true q21; go_wp2_with (first | ((with_reducible refine gate_builtin (b := .append) (xs := #[.tmp 55, .tmp 59]) rfl ?_); at_builtin; refine Kd.R_append (Kd.int .u8) (w0 := w) w.heap.size rfl (.tmp 55) (.tmp 59) 50 5 (.int .u8 0) 1 rfl Tryd.underlying50 info5 rfl (by decide) (by omega) u6 x6_2 (bt a0 (ji16)) [.int .u8 (bt a0 (ji16))] (fun _ => True) (fun _ => False) rfl rfl ?aP (fun _ hk => hk.elim) ?aF ?aO ?aB ?aS ?aL ?_; (case aP => exact rfl); (case aB => exact bl_); (case aF => exact (fun _ _ => trivial)); (case aO => exact (ro_ HO_6)); (case aS => exact (below_size bl_)); (case aL => have := LMc22.out; omega); intro v1002 w23 ho hb hg hat; rw [← Ny1001.out] at ho; have n0_ := am_ (hb); have n1_ := am_ (ho); clear HB; clear HO_6; have HB := n0_; have HO1003 := n1_; clear n0_ n1_; clear ho hb hg hat)); go_roundg k2
           case measure => have := HJ2.out; have := HK2.out; omega
           case rel => exact ⟨(y1001), (wrap64 ((ji16) + 1)), (by first | rfl | (simp; done) | (simp only [← hji16] <;> (first | rfl | simp)) | (simp [*]; done)), (by first | exact H' | (simp only [hji16]; exact H') | (rw [hji16]; exact H')), ⟨by have := HJ2.out; have := HK2.out; omega⟩, ⟨ro_ HO1003⟩, ⟨bl_⟩⟩
          ·rw [if_neg c20] at H; have c20b0 := nb_ c20; have c20b1 := nn_ c20
           by_cases c25 : (bt a0 (ji16)) = 92
           ·rw [if_pos c25] at H; have c25b0 := eb_ c25; have c25b1 := en_ c25; clear c25; replace H := is_ H; obtain ⟨c27, H⟩ := H; have LMc27 := am_ c27; clear c27; obtain ⟨y1004, hy1004⟩ : ∃ y_ : List Int, y_ = (x6_2 ++ [bt a0 (ji16)]) := ⟨_, rfl⟩; replace H : (spec_l2Unquote.l0 k2 a0 y1004 (wrap64 ((ji16) + 1))) = some (r1, r2) := by first | (rw [hy1004]; with_reducible exact H) | (have H2_ := (Option.bind_some _ _).symm.trans H; rw [hy1004]; with_reducible exact H2_) | (have H2_ := (Option.bind_some _ _).symm.trans H; with_reducible exact H2_) | with_reducible exact H | (rw [hy1004]; exact H) | exact H
            have Ny1004 := am_ hy1004; clear hy1004; have H' := am_ H; clear H; have p11 : 0 ≤ (x7_2 : Int) := od_; have q11 : x7_2 < (a0.size : Int) := od_; have hx11 := bt_at a0 x7_2; replace p11 := eq_true p11; replace q11 := eq_true q11; have p19 : 0 ≤ ((ji16) : Int) := od_; have q19 : (ji16) < (a0.size : Int) := od_; have hx19 := bt_at a0 (ji16); replace p19 := eq_true p19; replace q19 := eq_true q19; have p24 : 0 ≤ ((ji16) : Int) := od_; have q24 : (ji16) < (a0.size : Int) := od_; have hx24 := bt_at a0 (ji16); replace p24 := eq_true p24; replace q24 := eq_true q24; have p26 : 0 ≤ ((ji16) : Int) := od_; have q26 : (ji16) < (a0.size : Int) := od_; have hx26 := bt_at a0 (ji16); replace p26 := eq_true p26; replace q26 := eq_true q26; go_wp2_with (first | ((with_reducible refine gate_builtin (b := .append) (xs := #[.tmp 55, .tmp 59]) rfl ?_); at_builtin; refine Kd.R_append (Kd.int .u8) (w0 := w) w.heap.size rfl (.tmp 55) (.tmp 59) 50 5 (.int .u8 0) 1 rfl Tryd.underlying50 info5 rfl (by decide) (by omega) u6 x6_2 (bt a0 (ji16)) [.int .u8 (bt a0 (ji16))] (fun _ => True) (fun _ => False) rfl rfl ?aP (fun _ hk => hk.elim) ?aF ?aO ?aB ?aS ?aL ?_; (case aP => exact rfl); (case aB => exact bl_); (case aF => exact (fun _ _ => trivial)); (case aO => exact (ro_ HO_6)); (case aS => exact (below_size bl_)); (case aL => have := LMc27.out; omega); intro v1005 w28 ho hb hg hat; rw [← Ny1004.out] at ho; have n0_ := am_ (hb); have n1_ := am_ (ho); clear HB; clear HO_6; have HB := n0_; have HO1006 := n1_; clear n0_ n1_; clear ho hb hg hat)); go_roundg k2
            case measure => have := HJ2.out; have := HK2.out; omega
            case rel => exact ⟨(y1004), (wrap64 ((ji16) + 1)), (by first | rfl | (simp; done) | (simp only [← hji16] <;> (first | rfl | simp)) | (simp [*]; done)), (by first | exact H' | (simp only [hji16]; exact H') | (rw [hji16]; exact H')), ⟨by have := HJ2.out; have := HK2.out; omega⟩, ⟨ro_ HO1006⟩, ⟨bl_⟩⟩
           ·rw [if_neg c25] at H; have c25b0 := nb_ c25; have c25b1 := nn_ c25; simp only [Option.some.injEq, Prod.mk.injEq] at H; obtain ⟨rfl, rfl⟩ := H; have p11 : 0 ≤ (x7_2 : Int) := od_; have q11 : x7_2 < (a0.size : Int) := od_; have hx11 := bt_at a0 x7_2; replace p11 := eq_true p11; replace q11 := eq_true q11; have p19 : 0 ≤ ((ji16) : Int) := od_; have q19 : (ji16) < (a0.size : Int) := od_; have hx19 := bt_at a0 (ji16); replace p19 := eq_true p19; replace q19 := eq_true q19; have p24 : 0 ≤ ((ji16) : Int) := od_; have q24 : (ji16) < (a0.size : Int) := od_; have hx24 := bt_at a0 (ji16); replace p24 := eq_true p24; replace q24 := eq_true q24; go_wp2; go_ret2; exact ⟨by first | rfl | (simp [errW_none, errW_some] <;> rfl) | (simp only [← hji16]; first | rfl | (simp [errW_none, errW_some] <;> rfl)) | (simp [*, errW_none, errW_some] <;> rfl) | (simp [*, Go.Proofs.YtlibcibpflfboaaDoor.Gt.nil_bne]; done), bl_⟩
        ·rw [if_neg c14] at H; have c14b0 := nb_ c14; have c14b1 := nn_ c14; replace H := is_ H; obtain ⟨c30, H⟩ := H; have LMc30 := am_ c30; clear c30; obtain ⟨y1007, hy1007⟩ : ∃ y_ : List Int, y_ = (x6_2 ++ [bt a0 x7_2]) := ⟨_, rfl⟩; replace H : (spec_l2Unquote.l0 k2 a0 y1007 (wrap64 (x7_2 + 1))) = some (r1, r2) := by first | (rw [hy1007]; with_reducible exact H) | (have H2_ := (Option.bind_some _ _).symm.trans H; rw [hy1007]; with_reducible exact H2_) | (have H2_ := (Option.bind_some _ _).symm.trans H; with_reducible exact H2_) | with_reducible exact H | (rw [hy1007]; exact H) | exact H
         have Ny1007 := am_ hy1007; clear hy1007; have H' := am_ H; clear H; have p11 : 0 ≤ (x7_2 : Int) := od_; have q11 : x7_2 < (a0.size : Int) := od_; have hx11 := bt_at a0 x7_2; replace p11 := eq_true p11; replace q11 := eq_true q11; have p29 : 0 ≤ (x7_2 : Int) := od_; have q29 : x7_2 < (a0.size : Int) := od_; have hx29 := bt_at a0 x7_2; replace p29 := eq_true p29; replace q29 := eq_true q29; go_wp2_with (first | ((with_reducible refine gate_builtin (b := .append) (xs := #[.tmp 55, .tmp 59]) rfl ?_); at_builtin; refine Kd.R_append (Kd.int .u8) (w0 := w) w.heap.size rfl (.tmp 55) (.tmp 59) 50 5 (.int .u8 0) 1 rfl Tryd.underlying50 info5 rfl (by decide) (by omega) u6 x6_2 (bt a0 x7_2) [.int .u8 (bt a0 x7_2)] (fun _ => True) (fun _ => False) rfl rfl ?aP (fun _ hk => hk.elim) ?aF ?aO ?aB ?aS ?aL ?_; (case aP => exact rfl); (case aB => exact bl_); (case aF => exact (fun _ _ => trivial)); (case aO => exact (ro_ HO_6)); (case aS => exact (below_size bl_)); (case aL => have := LMc30.out; omega); intro v1008 w31 ho hb hg hat; rw [← Ny1007.out] at ho; have n0_ := am_ (hb); have n1_ := am_ (ho); clear HB; clear HO_6; have HB := n0_; have HO1009 := n1_; clear n0_ n1_; clear ho hb hg hat)); go_roundg k2
         case measure => have := HJ2.out; have := HK2.out; omega
         case rel => exact ⟨(y1007), (wrap64 (x7_2 + 1)), rs_, H', ⟨by have := HJ2.out; have := HK2.out; omega⟩, ⟨ro_ HO1009⟩, ⟨bl_⟩⟩
      ·rw [if_neg c9] at H; have c9b0 := decide_eq_false c9; clear c9; simp only [Option.some.injEq, Prod.mk.injEq] at H; obtain ⟨rfl, rfl⟩ := H; go_wp2; go_ret2; exact ⟨rf_, bl_⟩

/-! ### spec_l2Name: function 27 -/
mutual
def spec_l2Name.j0 : Nat → ByteArray → Bool → Option (Bool)
 | 0, _, _ => none
 | k + 1, x0, x16 => if x16 = true then (some false) else (spec_l2Name.l0 k x0 0)
def spec_l2Name.l0 : Nat → ByteArray → Int → Option (Bool)
 | 0, _, _ => none
 | k + 1, x0, x3 => if x3 < (x0.size : Int) then (if 0 ≤ x3 then ((spec_l2Letter.f (bt x0 x3)).bind fun t1002 => (if t1002 = true then (spec_l2Name.l0 k x0 (wrap64 (x3 + 1))) else ((spec_l2Digit.f (bt x0 x3)).bind fun t1003 => (if t1003 = true then (spec_l2Name.l0 k x0 (wrap64 (x3 + 1))) else (if (bt x0 x3) = 95 then (spec_l2Name.l0 k x0 (wrap64 (x3 + 1))) else (some false)))))) else (none)) else (some true)
end
def spec_l2Name.f (k : Nat) (a0 : ByteArray) : Option (Bool) := if (a0.size : Int) < 1 then (spec_l2Name.j0 k a0 true) else (if (a0.size : Int) > 40 then (spec_l2Name.j0 k a0 true) else (if 0 < (a0.size : Int) then ((spec_l2Digit.f (bt a0 0)).bind fun t1001 => (spec_l2Name.j0 k a0 t1001)) else (none)))
theorem spec_l2Name.mono_l : ∀ k, (∀ y0 y1, LeO (spec_l2Name.j0 k y0 y1) (spec_l2Name.j0 (k + 1) y0 y1)) ∧ (∀ y0 y1, LeO (spec_l2Name.l0 k y0 y1) (spec_l2Name.l0 (k + 1) y0 y1))
 | 0 => ⟨fun _ _ r h => by simp [spec_l2Name.j0] at h, fun _ _ r h => by simp [spec_l2Name.l0] at h⟩
 | k + 1 => by
  obtain ⟨ih0, ih1⟩ := spec_l2Name.mono_l k
  refine ⟨?_, ?_⟩
  ·intro y0 y1
   unfold spec_l2Name.j0
   repeat' with_reducible first | apply ih0 | apply ih1 | apply LeO.refl | apply LeO.none | apply LeO.ite | refine LeO.bind ?_ (fun _ => ?_)
  ·intro y0 y1
   unfold spec_l2Name.l0
   repeat' with_reducible first | apply ih0 | apply ih1 | apply LeO.refl | apply LeO.none | apply LeO.ite | refine LeO.bind ?_ (fun _ => ?_)
theorem spec_l2Name.mono : ∀ a0 k, LeO (spec_l2Name.f k a0) (spec_l2Name.f (k + 1) a0) := by
 intro a0 k
 obtain ⟨ih0, ih1⟩ := spec_l2Name.mono_l k
 unfold spec_l2Name.f
 repeat' with_reducible first | apply ih0 | apply ih1 | apply LeO.refl | apply LeO.none | apply LeO.ite | refine LeO.bind ?_ (fun _ => ?_)
set_option maxHeartbeats 8000000 in
set_option maxRecDepth 100000 in
theorem spec_l2Name.calls (k : Nat) (a0 : ByteArray) (r : Bool) (w : World) (h : spec_l2Name.f k a0 = some r) :
  Calls Tryd.prog 27 #[.string a0] w fun e w' => e = .returned (.bool r) ∧ Drawn0 w w' := by
 have H := h; clear h; unfold spec_l2Name.f at H; have HC2 := am_ H; clear H; go_enter Tryd.func27, Tryd.ntmps27; go_upto_region 1 with (fail)
 go_cut [16] (fun v16 wc => ∃ (kq : Nat) (x16_1 : Bool), v16 = .bool x16_1 ∧ Aside0 (spec_l2Name.j0 kq a0 x16_1 = some r) ∧ Aside0 (kq ≤ k) ∧ Drawn0 w wc)
 case first =>
  have H := HC2.out; clear HC2
  by_cases c3 : (a0.size : Int) < 1
  ·rw [if_pos c3] at H; have c3b0 := decide_eq_true c3; have c3b1 : decide (a0.size < 1) = true := decide_eq_true (by omega); clear c3; (first | rw [c3b0] | (simp only [i64_w, i32_w]; rw [c3b0]) | skip); have H' := am_ H; clear H; go_wp2; go_meet
   case rel => exact ⟨_, (true), rs_, H', ⟨by first | omega | exact Nat.le_refl _⟩, by repeat (first | exact Drawn0.refl _ | apply Drawn0.step)⟩
  ·rw [if_neg c3] at H; have c3b0 := decide_eq_false c3; have c3b1 : decide (a0.size < 1) = false := decide_eq_false (by omega); clear c3; (first | rw [c3b0] | (simp only [i64_w, i32_w]; rw [c3b0]) | skip)
   by_cases c4 : (a0.size : Int) > 40
   ·rw [if_pos c4] at H; have c4b0 := dg_ c4; have c4b1 : decide (40 < a0.size) = true := decide_eq_true (by omega); clear c4; have H' := am_ H; clear H; go_wp2; go_meet
    case rel => exact ⟨_, (true), rs_, H', ⟨by first | omega | exact Nat.le_refl _⟩, by repeat (first | exact Drawn0.refl _ | apply Drawn0.step)⟩
   ·rw [if_neg c4] at H; have c4b0 := df_ c4; have c4b1 : decide (40 < a0.size) = false := decide_eq_false (by omega); clear c4; replace H := is_ H; obtain ⟨c5, H⟩ := H; have c5b0 := decide_eq_true c5; have c5b1 : decide (0 < a0.size) = true := decide_eq_true (by omega); clear c5; replace H := bs_ H; obtain ⟨t1001, A7, H⟩ := H; have H' := am_ H; clear H; have p6 : 0 ≤ (0 : Int) := (by omega); have q6 : 0 < a0.size := (by have : (0 : Int) < (a0.size : Int) := od_; omega); have hx6 : ∀ h : 0 < a0.size, ((a0[0]'h).toNat : Int) = bt a0 0 := bt_at a0 0; clear p6; have qi6 : (0 < (a0.size : Int)) = True := eq_true (od_); replace q6 := eq_true q6; go_wp2_with (first | (go_at_call 26; (with_reducible refine (spec_l2Digit.calls (bt a0 0) t1001 _ A7.out).mono ?_); rintro e w' ⟨rfl, ⟨nd, rfl⟩⟩)); go_meet
    case rel => exact ⟨_, (t1001), rs_, H', ⟨by first | omega | exact Nat.le_refl _⟩, by repeat (first | exact Drawn0.refl _ | apply Drawn0.step)⟩
 case rest =>
  clear HC2; obtain ⟨kq, x16_1, rfl, HA, HJ1, ⟨mc1, rfl⟩⟩ := hcut
  cases kq with
  | zero => exact absurd HA.out (by simp [spec_l2Name.j0])
  | succ kj1 =>
   have H := HA.out; clear HA; simp only [spec_l2Name.j0] at H
   by_cases c8 : x16_1 = true
   ·subst c8; replace H := it_ H; obtain rfl := si_ H; go_wp2; go_ret; exact ⟨by first | rfl | (simp; done) | (simp [*]; done), by repeat (first | exact Drawn0.refl _ | apply Drawn0.step)⟩
   ·replace c8 := Bool.eq_false_iff.mpr c8; subst c8; replace H := if_ H; have H' := am_ H; clear H; go_wp2
    go_loopg [3] kj1 (fun kq v3 w' => ∃ (x3_2 : Int), v3 = .int .i64 x3_2 ∧ Aside0 (spec_l2Name.l0 kq a0 x3_2 = some r) ∧ Aside0 (kq ≤ kj1) ∧ Drawn0 w w')
    case atStart => exact ⟨(0), rs_, H', ⟨Nat.le_refl _⟩, by repeat (first | exact Drawn0.refl _ | apply Drawn0.step)⟩
    case round =>
     clear H'; (try clear c8); obtain ⟨x3_2, rfl, HA, HK2, ⟨m2, rfl⟩⟩ := hrel
     cases gk with
     | zero => exact absurd HA.out (by simp [spec_l2Name.l0])
     | succ k2 =>
      have H := HA.out; clear HA; simp only [spec_l2Name.l0] at H
      by_cases c9 : x3_2 < (a0.size : Int)
      ·rw [if_pos c9] at H; have c9b0 := decide_eq_true c9; clear c9; replace H := is_ H; obtain ⟨c10, H⟩ := H; have c10b0 := decide_eq_true c10; clear c10; replace H := bs_ H; obtain ⟨t1002, A12, H⟩ := H
       by_cases c13 : t1002 = true
       ·subst c13; replace H := it_ H; have H' := am_ H; clear H; have p11 : 0 ≤ (x3_2 : Int) := od_; have q11 : x3_2 < (a0.size : Int) := od_; have hx11 := bt_at a0 x3_2; replace p11 := eq_true p11; replace q11 := eq_true q11; go_wp2_with (first | ((with_reducible refine gate_callee (f := 25) rfl ?_); refine gl_ 26 Tryd.func25 #[.int .u8 (bt a0 x3_2)] ?_; (with_reducible refine (spec_l2Letter.calls (bt a0 x3_2) true _ A12.out).mono ?_); rintro e w' ⟨rfl, ⟨nd, rfl⟩⟩; refine ⟨_, rfl, ?_⟩)); go_roundg k2
        case measure => have := HJ1.out; have := HK2.out; omega
        case rel => exact ⟨(wrap64 (x3_2 + 1)), rs_, H', ⟨by have := HJ1.out; have := HK2.out; omega⟩, by repeat (first | exact Drawn0.refl _ | apply Drawn0.step)⟩
       ·replace c13 := Bool.eq_false_iff.mpr c13; subst c13; replace H := if_ H; replace H := bs_ H; obtain ⟨t1003, A15, H⟩ := H
        by_cases c16 : t1003 = true
        ·subst c16; replace H := it_ H; have H' := am_ H; clear H; have p11 : 0 ≤ (x3_2 : Int) := od_; have q11 : x3_2 < (a0.size : Int) := od_; have hx11 := bt_at a0 x3_2; replace p11 := eq_true p11; replace q11 := eq_true q11; go_wp2_with (first | ((with_reducible refine gate_callee (f := 25) rfl ?_); refine gl_ 26 Tryd.func25 #[.int .u8 (bt a0 x3_2)] ?_; (with_reducible refine (spec_l2Letter.calls (bt a0 x3_2) false _ A12.out).mono ?_); rintro e w' ⟨rfl, ⟨nd, rfl⟩⟩; refine ⟨_, rfl, ?_⟩; have p14 : 0 ≤ (x3_2 : Int) := od_; have q14 : x3_2 < (a0.size : Int) := od_; have hx14 := bt_at a0 x3_2; replace p14 := eq_true p14; replace q14 := eq_true q14) | (go_at_call 26; (with_reducible refine (spec_l2Digit.calls (bt a0 x3_2) true _ A15.out).mono ?_); rintro e w' ⟨rfl, ⟨nd, rfl⟩⟩)); go_roundg k2
         case measure => have := HJ1.out; have := HK2.out; omega
         case rel => exact ⟨(wrap64 (x3_2 + 1)), rs_, H', ⟨by have := HJ1.out; have := HK2.out; omega⟩, by repeat (first | exact Drawn0.refl _ | apply Drawn0.step)⟩
        ·replace c16 := Bool.eq_false_iff.mpr c16; subst c16; replace H := if_ H
         by_cases c18 : (bt a0 x3_2) = 95
         ·rw [if_pos c18] at H; have c18b0 := eb_ c18; have c18b1 := en_ c18; clear c18; have H' := am_ H; clear H; have p11 : 0 ≤ (x3_2 : Int) := od_; have q11 : x3_2 < (a0.size : Int) := od_; have hx11 := bt_at a0 x3_2; replace p11 := eq_true p11; replace q11 := eq_true q11; go_wp2_with (first | ((with_reducible refine gate_callee (f := 25) rfl ?_); refine gl_ 26 Tryd.func25 #[.int .u8 (bt a0 x3_2)] ?_; (with_reducible refine (spec_l2Letter.calls (bt a0 x3_2) false _ A12.out).mono ?_); rintro e w' ⟨rfl, ⟨nd, rfl⟩⟩; refine ⟨_, rfl, ?_⟩; have p14 : 0 ≤ (x3_2 : Int) := od_; have q14 : x3_2 < (a0.size : Int) := od_; have hx14 := bt_at a0 x3_2; replace p14 := eq_true p14; replace q14 := eq_true q14) | (go_at_call 26; (with_reducible refine (spec_l2Digit.calls (bt a0 x3_2) false _ A15.out).mono ?_); rintro e w' ⟨rfl, ⟨nd, rfl⟩⟩; have p17 : 0 ≤ (x3_2 : Int) := od_; have q17 : x3_2 < (a0.size : Int) := od_; have hx17 := bt_at a0 x3_2; replace p17 := eq_true p17; replace q17 := eq_true q17)); go_roundg k2
          case measure => have := HJ1.out; have := HK2.out; omega
          case rel => exact ⟨(wrap64 (x3_2 + 1)), rs_, H', ⟨by have := HJ1.out; have := HK2.out; omega⟩, by repeat (first | exact Drawn0.refl _ | apply Drawn0.step)⟩
         ·rw [if_neg c18] at H; have c18b0 := nb_ c18; have c18b1 := nn_ c18; obtain rfl := si_ H; have p11 : 0 ≤ (x3_2 : Int) := od_; have q11 : x3_2 < (a0.size : Int) := od_; have hx11 := bt_at a0 x3_2; replace p11 := eq_true p11; replace q11 := eq_true q11; go_wp2_with (first | ((with_reducible refine gate_callee (f := 25) rfl ?_); refine gl_ 26 Tryd.func25 #[.int .u8 (bt a0 x3_2)] ?_; (with_reducible refine (spec_l2Letter.calls (bt a0 x3_2) false _ A12.out).mono ?_); rintro e w' ⟨rfl, ⟨nd, rfl⟩⟩; refine ⟨_, rfl, ?_⟩; have p14 : 0 ≤ (x3_2 : Int) := od_; have q14 : x3_2 < (a0.size : Int) := od_; have hx14 := bt_at a0 x3_2; replace p14 := eq_true p14; replace q14 := eq_true q14) | (go_at_call 26; (with_reducible refine (spec_l2Digit.calls (bt a0 x3_2) false _ A15.out).mono ?_); rintro e w' ⟨rfl, ⟨nd, rfl⟩⟩; have p17 : 0 ≤ (x3_2 : Int) := od_; have q17 : x3_2 < (a0.size : Int) := od_; have hx17 := bt_at a0 x3_2; replace p17 := eq_true p17; replace q17 := eq_true q17)); go_ret; exact ⟨by first | rfl | (simp; done) | (simp [*]; done), by repeat (first | exact Drawn0.refl _ | apply Drawn0.step)⟩
      ·rw [if_neg c9] at H; have c9b0 := decide_eq_false c9; clear c9; obtain rfl := si_ H; go_wp2; go_ret; exact ⟨by first | rfl | (simp; done) | (simp [*]; done), by repeat (first | exact Drawn0.refl _ | apply Drawn0.step)⟩

/-! ### spec_l2Printed: function 28 -/
def spec_l2Printed.l0 : Nat → ByteArray → Int → Option (Bool)
 | 0, _, _ => none
 | k + 1, x0, x3 => if x3 < (x0.size : Int) then (if 0 ≤ x3 then (if (bt x0 x3) < 32 then (some false) else (if (bt x0 x3) > 126 then (some false) else (spec_l2Printed.l0 k x0 (wrap64 (x3 + 1))))) else (none)) else (some true)
def spec_l2Printed.f (k : Nat) (a0 : ByteArray) : Option (Bool) := spec_l2Printed.l0 k a0 0
theorem spec_l2Printed.mono_l : ∀ k, (∀ y0 y1, LeO (spec_l2Printed.l0 k y0 y1) (spec_l2Printed.l0 (k + 1) y0 y1))
 | 0 => fun _ _ r h => by simp [spec_l2Printed.l0] at h
 | k + 1 => by
  have ih0 := spec_l2Printed.mono_l k
  ·intro y0 y1
   unfold spec_l2Printed.l0
   repeat' with_reducible first | apply ih0 | apply LeO.refl | apply LeO.none | apply LeO.ite | refine LeO.bind ?_ (fun _ => ?_)
theorem spec_l2Printed.mono : ∀ a0 k, LeO (spec_l2Printed.f k a0) (spec_l2Printed.f (k + 1) a0) := by
 intro a0 k
 have ih0 := spec_l2Printed.mono_l k
 unfold spec_l2Printed.f
 repeat' with_reducible first | apply ih0 | apply LeO.refl | apply LeO.none | apply LeO.ite | refine LeO.bind ?_ (fun _ => ?_)
set_option maxHeartbeats 8000000 in
set_option maxRecDepth 100000 in
theorem spec_l2Printed.calls (k : Nat) (a0 : ByteArray) (r : Bool) (w : World) (h : spec_l2Printed.f k a0 = some r) :
  Calls Tryd.prog 28 #[.string a0] w fun e w' => e = .returned (.bool r) ∧ Drawn0 w w' := by
 have H := h; clear h; unfold spec_l2Printed.f at H; have H' := am_ H; clear H; go_enter Tryd.func28, Tryd.ntmps28; go_wp2
 go_loopg [3] k (fun kq v3 w' => ∃ (x3_1 : Int), v3 = .int .i64 x3_1 ∧ Aside0 (spec_l2Printed.l0 kq a0 x3_1 = some r) ∧ Aside0 (kq ≤ k) ∧ Drawn0 w w')
 case atStart => exact ⟨(0), rs_, H', ⟨Nat.le_refl _⟩, by repeat (first | exact Drawn0.refl _ | apply Drawn0.step)⟩
 case round =>
  clear H'; obtain ⟨x3_1, rfl, HA, HK1, ⟨m1, rfl⟩⟩ := hrel
  cases gk with
  | zero => exact absurd HA.out (by simp [spec_l2Printed.l0])
  | succ k1 =>
   have H := HA.out; clear HA; simp only [spec_l2Printed.l0] at H
   by_cases c2 : x3_1 < (a0.size : Int)
   ·rw [if_pos c2] at H; have c2b0 := decide_eq_true c2; clear c2; replace H := is_ H; obtain ⟨c3, H⟩ := H; have c3b0 := decide_eq_true c3; clear c3
    by_cases c5 : (bt a0 x3_1) < 32
    ·rw [if_pos c5] at H; have c5b0 := decide_eq_true c5; clear c5; obtain rfl := si_ H; have p4 : 0 ≤ (x3_1 : Int) := od_; have q4 : x3_1 < (a0.size : Int) := od_; have hx4 := bt_at a0 x3_1; replace p4 := eq_true p4; replace q4 := eq_true q4; go_wp2; go_ret; exact ⟨by first | rfl | (simp; done) | (simp [*]; done), by repeat (first | exact Drawn0.refl _ | apply Drawn0.step)⟩
    ·rw [if_neg c5] at H; have c5b0 := decide_eq_false c5; clear c5
     by_cases c7 : (bt a0 x3_1) > 126
     ·rw [if_pos c7] at H; have c7b0 := dg_ c7; clear c7; obtain rfl := si_ H; have p4 : 0 ≤ (x3_1 : Int) := od_; have q4 : x3_1 < (a0.size : Int) := od_; have hx4 := bt_at a0 x3_1; replace p4 := eq_true p4; replace q4 := eq_true q4; have p6 : 0 ≤ (x3_1 : Int) := od_; have q6 : x3_1 < (a0.size : Int) := od_; have hx6 := bt_at a0 x3_1; replace p6 := eq_true p6; replace q6 := eq_true q6; go_wp2; go_ret; exact ⟨by first | rfl | (simp; done) | (simp [*]; done), by repeat (first | exact Drawn0.refl _ | apply Drawn0.step)⟩
     ·rw [if_neg c7] at H; have c7b0 := df_ c7; clear c7; have H' := am_ H; clear H; have p4 : 0 ≤ (x3_1 : Int) := od_; have q4 : x3_1 < (a0.size : Int) := od_; have hx4 := bt_at a0 x3_1; replace p4 := eq_true p4; replace q4 := eq_true q4; have p6 : 0 ≤ (x3_1 : Int) := od_; have q6 : x3_1 < (a0.size : Int) := od_; have hx6 := bt_at a0 x3_1; replace p6 := eq_true p6; replace q6 := eq_true q6; go_wp2; go_roundg k1
      case measure => have := HK1.out; omega
      case rel => exact ⟨(wrap64 (x3_1 + 1)), rs_, H', ⟨by have := HK1.out; omega⟩, by repeat (first | exact Drawn0.refl _ | apply Drawn0.step)⟩
   ·rw [if_neg c2] at H; have c2b0 := decide_eq_false c2; clear c2; obtain rfl := si_ H; go_wp2; go_ret; exact ⟨by first | rfl | (simp; done) | (simp [*]; done), by repeat (first | exact Drawn0.refl _ | apply Drawn0.step)⟩

/-! ### spec_l2Alternatives: function 41 -/
def kcut : Kd (Option Addr × Nat × Nat) := Kd.scalar (fun x => .slice x.1 x.2.1 x.2.2) (fun _ => rfl)
theorem move_apart {α : Type} {d : Kd α} {e base : Nat} {W w1 : World} {v v1 x : Value} {o : List α} (h4 : Kd.S d e W base (fun k => some k ≠ v.ownBlock) x o) (hg : W.grownBy w1 v.ownBlock) (hat : v1.ownBlock = v.ownBlock ∨ ∃ b, v1.ownBlock = some b ∧ W.heap.size ≤ b) : Kd.S d e w1 base (fun k => some k ≠ v1.ownBlock) x o :=
 Kd.S_mono (Kd.S_after (ok := fun _ => True) (Kd.S_mono h4 (fun _ hk => ⟨trivial, hk⟩)) hg hat) (fun _ hk => hk.2)
theorem sq_ {p q : Prop} (H : Aside0 p) (h : p → q := by (intro hv_; (with_reducible repeat (first | apply Kd.S_alloc | apply Kd.S_drewN | apply Kd.S_drew)); exact hv_)) : q := h H.out
def okE (d : Int) : Bool := decide (d = 42) || decide (d = 63) || decide (d = 124) || decide (d = 92)
/-- A pattern's alternatives, each as its codes: a byte, -1 for any bytes, -2 for one. -/
def altS (s : ByteArray) : Nat → Nat → List (List Int) → List Int → List (List Int) × Bool
 | 0, _, o, nw => (o ++ [nw], true)
 | d + 1, i, o, nw => if i < s.size then (if bt s (i : Int) = 124 then altS s d (i + 1) (o ++ [nw]) [] else if bt s (i : Int) = 42 then altS s d (i + 1) o (nw ++ [-1]) else if bt s (i : Int) = 63 then altS s d (i + 1) o (nw ++ [-2]) else if bt s (i : Int) = 92 then (if i + 1 < s.size then (if okE (bt s ((i + 1 : Nat) : Int)) = true then altS s d (i + 2) o (nw ++ [bt s ((i + 1 : Nat) : Int)]) else ([], false)) else ([], false)) else altS s d (i + 1) o (nw ++ [bt s (i : Int)])) else (o ++ [nw], true)
theorem altS_more (s : ByteArray) : ∀ (d d' i : Nat) (o : List (List Int)) (nw : List Int), s.size - i ≤ d → s.size - i ≤ d' → altS s d i o nw = altS s d' i o nw := by
 intro d
 induction d with
 | zero =>
  intro d' i o nw h _
  cases d' with
  | zero => rfl
  | succ d' => simp only [altS]; rw [if_neg (by omega)]
 | succ d ih =>
  intro d' i o nw h h'
  by_cases hi : i < s.size
  ·obtain ⟨d', rfl⟩ : ∃ m, d' = m + 1 := ⟨d' - 1, by omega⟩
   simp only [altS]
   rw [if_pos hi, if_pos hi, ih d' (i + 2) _ _ (by omega) (by omega), ih d' (i + 1) (o ++ [nw]) _ (by omega) (by omega), ih d' (i + 1) o (nw ++ [-1]) (by omega) (by omega), ih d' (i + 1) o (nw ++ [-2]) (by omega) (by omega), ih d' (i + 1) o (nw ++ [bt s (i : Int)]) (by omega) (by omega)]
  ·cases d' with
   | zero => simp only [altS]; rw [if_neg hi]
   | succ d' => simp only [altS]; rw [if_neg hi, if_neg hi]
def altA (s : ByteArray) (i : Nat) (o : List (List Int)) (nw : List Int) : List (List Int) × Bool := altS s (s.size - i) i o nw
theorem altA_end {s : ByteArray} {i : Nat} {o : List (List Int)} {nw : List Int} (h : ¬ i < s.size) : altA s i o nw = (o ++ [nw], true) := by unfold altA; rw [show s.size - i = 0 from by omega]; rfl
theorem altA_one {s : ByteArray} {i : Nat} {o : List (List Int)} {nw : List Int} (h : i < s.size) : altA s i o nw = if bt s (i : Int) = 124 then altA s (i + 1) (o ++ [nw]) [] else if bt s (i : Int) = 42 then altA s (i + 1) o (nw ++ [-1]) else if bt s (i : Int) = 63 then altA s (i + 1) o (nw ++ [-2]) else if bt s (i : Int) = 92 then (if i + 1 < s.size then (if okE (bt s ((i + 1 : Nat) : Int)) = true then altA s (i + 2) o (nw ++ [bt s ((i + 1 : Nat) : Int)]) else ([], false)) else ([], false)) else altA s (i + 1) o (nw ++ [bt s (i : Int)]) := by
 unfold altA
 rw [show s.size - i = (s.size - (i + 1)) + 1 from by omega]
 simp only [altS]
 rw [if_pos h, altS_more s (s.size - (i + 1)) (s.size - (i + 2)) (i + 2) _ _ (by omega) (by omega)]
theorem altA_bar {s : ByteArray} {i : Nat} {o : List (List Int)} {nw : List Int} (h : i < s.size) (hc : bt s (i : Int) = 124) : altA s i o nw = altA s (i + 1) (o ++ [nw]) [] := by rw [altA_one h, if_pos hc]
theorem altA_star {s : ByteArray} {i : Nat} {o : List (List Int)} {nw : List Int} (h : i < s.size) (hc : bt s (i : Int) = 42) : altA s i o nw = altA s (i + 1) o (nw ++ [-1]) := by rw [altA_one h, if_neg (by omega), if_pos hc]
theorem altA_any {s : ByteArray} {i : Nat} {o : List (List Int)} {nw : List Int} (h : i < s.size) (hc : bt s (i : Int) = 63) : altA s i o nw = altA s (i + 1) o (nw ++ [-2]) := by rw [altA_one h, if_neg (by omega), if_neg (by omega), if_pos hc]
theorem altA_cut {s : ByteArray} {i : Nat} {o : List (List Int)} {nw : List Int} (h : i < s.size) (hc : bt s (i : Int) = 92) (h' : ¬ i + 1 < s.size) : altA s i o nw = ([], false) := by rw [altA_one h, if_neg (by omega), if_neg (by omega), if_neg (by omega), if_pos hc, if_neg h']
theorem altA_esc {s : ByteArray} {i : Nat} {o : List (List Int)} {nw : List Int} (h : i + 1 < s.size) (hc : bt s (i : Int) = 92) : altA s i o nw = if okE (bt s ((i + 1 : Nat) : Int)) = true then altA s (i + 2) o (nw ++ [bt s ((i + 1 : Nat) : Int)]) else ([], false) := by rw [altA_one (by omega), if_neg (by omega), if_neg (by omega), if_neg (by omega), if_pos hc, if_pos h]
theorem altA_on {s : ByteArray} {i : Nat} {o : List (List Int)} {nw : List Int} (h : i < s.size) (h1 : bt s (i : Int) ≠ 124) (h2 : bt s (i : Int) ≠ 42) (h3 : bt s (i : Int) ≠ 63) (h4 : bt s (i : Int) ≠ 92) : altA s i o nw = altA s (i + 1) o (nw ++ [bt s (i : Int)]) := by rw [altA_one h, if_neg h1, if_neg h2, if_neg h3, if_neg h4]
theorem wrap_bt (s : ByteArray) (i : Int) : wrap64 (bt s i) = bt s i := by have := bt_range s i; unfold wrap64; omega
def spec_l2Alternatives.f (k : Nat) (a0 : ByteArray) : Option (List (List Int) × Bool) := if (a0.size : Int) > 100 then some ([], false) else (spec_l2Printed.f k a0).bind fun t => if t = true then some (altA a0 0 [] []) else some ([], false)
theorem spec_l2Alternatives.mono : ∀ a0 k, LeO (spec_l2Alternatives.f k a0) (spec_l2Alternatives.f (k + 1) a0) := by
 intro a0 k
 unfold spec_l2Alternatives.f
 exact LeO.ite (LeO.refl _) (LeO.bind (spec_l2Printed.mono _ _) (fun _ => LeO.refl _))
set_option maxHeartbeats 16000000 in
set_option maxRecDepth 100000 in
theorem spec_l2Alternatives.calls (k : Nat) (a0 : ByteArray) (r1 : List (List Int)) (r2 : Bool) (w : World) (h : spec_l2Alternatives.f k a0 = some (r1, r2)) :
  Calls Tryd.prog 41 #[.string a0] w fun e w' => ∃ v0_ : Value, e = .returned (.tuple #[v0_, .bool r2]) ∧ Kd.S (Kd.slice 3 (Kd.int .i64)) 76 w' w.heap.size (fun _ => True) v0_ r1 ∧ Below w.heap.size w w' := by
 have i3 : (Tryd.prog.info? 3).map (fun i => (i.zero, i.size, i.bytes)) = some (some (.int .i64 0), 1, 8) := by kernel_rfl
 have iS : (Tryd.prog.info? 76).map (fun i => (i.zero, i.size, i.bytes)) = some (some (.slice none 0 0), 1, 24) := by kernel_rfl
 have HB := am_ (Below.refl w.heap.size w)
 unfold spec_l2Alternatives.f at h
 by_cases c1 : (a0.size : Int) > 100
 ·rw [if_pos c1] at h
  have c1b0 : decide (100 < (a0.size : Int)) = true := decide_eq_true c1
  simp only [Option.some.injEq, Prod.mk.injEq] at h
  obtain ⟨rfl, rfl⟩ := h
  go_enter Tryd.func41, Tryd.ntmps41
  go_wp2
  go_ret2
  exact ⟨_, rf_, ni_, bl_⟩
 ·rw [if_neg c1] at h
  have c1b0 : decide (100 < (a0.size : Int)) = false := decide_eq_false c1
  have HZ := am_ (show a0.size ≤ 100 by omega)
  clear c1
  obtain ⟨t, ht, h⟩ := Option.bind_eq_some_iff.mp h
  have HT := am_ ht
  clear ht
  cases t with
  | false =>
   rw [if_neg (by decide)] at h
   simp only [Option.some.injEq, Prod.mk.injEq] at h
   obtain ⟨rfl, rfl⟩ := h
   go_enter Tryd.func41, Tryd.ntmps41
   go_wp2_with (first | (go_at_call 28; refine (spec_l2Printed.calls k a0 false _ HT.out).mono ?_; rintro e w' ⟨rfl, ⟨nd, rfl⟩⟩))
   go_ret2
   exact ⟨_, rf_, ni_, bl_⟩
  | true =>
   rw [if_pos rfl] at h
   have HR := am_ (Option.some.inj h)
   clear h
   go_enter Tryd.func41, Tryd.ntmps41
   go_wp2_with (first | (go_at_call 28; refine (spec_l2Printed.calls k a0 true _ HT.out).mono ?_; rintro e w' ⟨rfl, ⟨nd, rfl⟩⟩))
   go_loopg [4, 5, 6] a0.size (fun gg v4 v5 v6 w' => ∃ (o : List (List Int)) (nw : List Int) (i : Nat), v6 = .int .i64 (i : Int) ∧ Aside0 (o.length ≤ i ∧ nw.length ≤ i ∧ i ≤ a0.size ∧ a0.size ≤ 100 ∧ a0.size - i ≤ gg) ∧ Aside0 (altA a0 i o nw = (r1, r2)) ∧ Aside0 (Kd.S (Kd.slice 3 (Kd.int .i64)) 76 w' w.heap.size (fun k_ => some k_ ≠ (v5 : Value).ownBlock) v4 o) ∧ Aside0 (Kd.R (Kd.int .i64) 3 w' w.heap.size (fun _ => True) v5 nw) ∧ Aside0 (Below w.heap.size w w'))
   case atStart => exact ⟨[], [], 0, rs_, ⟨by have := HZ.out; simp; omega⟩, HR, ⟨ni_⟩, ⟨ni_⟩, ⟨bl_⟩⟩
   case round =>
    obtain ⟨o, nw, i, rfl, HL, HA, HO_4, HO_5, HB⟩ := hrel
    obtain ⟨I, hI⟩ : ∃ I : Int, (i : Int) = I := ⟨_, rfl⟩
    obtain ⟨Ao, co, e5⟩ := Kd.R_slice HO_5.out
    subst e5
    rw [hI]
    have HI := am_ hI
    by_cases c4 : I < (a0.size : Int)
    ·have c4b0 : decide (I < (a0.size : Int)) = true := decide_eq_true c4
     have hI0 : 0 ≤ I := by omega
     have hx6 := bt_at a0 I
     have p6 := eq_true hI0
     have q6 := eq_true c4
     have HIL := am_ c4
     have HI0 := am_ hI0
     clear c4 hI0 hI
     by_cases d124 : bt a0 I = 124
     ·have c124b0 : (bt a0 I == 124) = true := beq_iff_eq.mpr d124
      have HN := am_ d124
      clear d124
      go_wp2_with (first | ((with_reducible refine gate_builtin (b := .append) (xs := #[.tmp 33, .tmp 35]) rfl ?_); at_builtin; refine Kd.S_append (Kd.slice 3 (Kd.int .i64)) (w0 := w) w.heap.size rfl (.tmp 33) (.tmp 35) 70 76 (.slice none 0 0) 24 rfl Tryd.underlying70 iS rfl (by decide) (by omega) u4 o nw [.slice Ao nw.length co] (fun _ => True) (fun k_ => some k_ = (.slice Ao nw.length co : Value).ownBlock) rfl rfl ?aP (fun k_ hk => ⟨trivial, fun he => (Kd.S_R HO_4.out).1 k_ he.symm hk⟩) ?aF ?aO ?aB ?aS ?aL ?_; (case aP => exact Kd.M_row (Kd.R_tight rfl (show Kd.R (Kd.int .i64) 3 _ w.heap.size (fun _ => True) (.slice Ao nw.length co) nw from ro_ HO_5))); (case aB => exact bl_); (case aF => exact (fun _ _ => trivial)); (case aO => exact Kd.S_mono (show Kd.S (Kd.slice 3 (Kd.int .i64)) 76 _ w.heap.size _ u4 o from sq_ HO_4) (fun _ hk => ⟨trivial, hk⟩)); (case aS => exact (below_size bl_)); (case aL => have := HL.out; omega); intro v90 w90 ho hb hg hat; have n1_ := am_ hb; have n2_ := am_ ho; clear HO_4 HO_5 HB; have HO_4 := n2_; have HB := n1_; clear n1_ n2_ ho hb hg hat))
      go_roundg (a0.size - (i + 1))
      case measure => have h1_ := HI.out; have h2_ := HL.out; have h3_ := HIL.out; omega
      case rel => exact ⟨o ++ [nw], [], i + 1, (by first | rfl | (have h1_ := HI.out; have h2_ := HL.out; have h3_ := HIL.out; congr 1; unfold wrap64; omega)), ⟨by have h1_ := HI.out; have h2_ := HL.out; have h3_ := HIL.out; simp only [List.length_append, List.length_singleton, List.length_nil]; omega⟩, ⟨(altA_bar (by have h1_ := HI.out; have h3_ := HIL.out; omega) (by rw [HI.out]; exact HN.out)).symm.trans HA.out⟩, ⟨Kd.S_mono HO_4.out (fun k_ _ => by simp [Value.ownBlock])⟩, ⟨ni_⟩, ⟨bl_⟩⟩
     ·have c124b0 : (bt a0 I == 124) = false := beq_eq_false_iff_ne.mpr d124
      by_cases d42 : bt a0 I = 42
      ·have c42b0 : (bt a0 I == 42) = true := beq_iff_eq.mpr d42
       have HN := am_ d42
       clear d42
       go_wp2_with (first | ((with_reducible refine gate_builtin (b := .append) (xs := #[.tmp 39, .tmp 40]) rfl ?_); at_builtin; refine Kd.R_append (Kd.int .i64) (w0 := w) w.heap.size rfl (.tmp 39) (.tmp 40) 76 3 (.int .i64 0) 8 rfl Tryd.underlying76 i3 rfl (by decide) (by omega) (.slice Ao nw.length co) nw (-1) [.int .i64 (-1)] (fun _ => True) (fun _ => False) rfl rfl ?aP (fun _ hk => hk.elim) ?aF ?aO ?aB ?aS ?aL ?_; (case aP => exact rfl); (case aB => exact bl_); (case aF => exact (fun _ _ => trivial)); (case aO => exact (ro_ HO_5)); (case aS => exact (below_size bl_)); (case aL => have := HL.out; omega); intro v90 w90 ho hb hg hat; have n0_ := am_ (move_apart (show Kd.S (Kd.slice 3 (Kd.int .i64)) 76 _ w.heap.size _ u4 o from sq_ HO_4) hg hat); have n1_ := am_ hb; have n2_ := am_ ho; clear HO_4 HO_5 HB; have HO_4 := n0_; have HB := n1_; have HO_5 := n2_; clear n0_ n1_ n2_ ho hb hg hat))
       go_roundg (a0.size - (i + 1))
       case measure => have h1_ := HI.out; have h2_ := HL.out; have h3_ := HIL.out; omega
       case rel => exact ⟨o, nw ++ [-1], i + 1, (by first | rfl | (have h1_ := HI.out; have h2_ := HL.out; have h3_ := HIL.out; congr 1; unfold wrap64; omega)), ⟨by have h1_ := HI.out; have h2_ := HL.out; have h3_ := HIL.out; simp only [List.length_append, List.length_singleton, List.length_nil]; omega⟩, ⟨(altA_star (by have h1_ := HI.out; have h3_ := HIL.out; omega) (by rw [HI.out]; exact HN.out)).symm.trans HA.out⟩, ⟨sq_ HO_4⟩, ⟨ro_ HO_5⟩, ⟨bl_⟩⟩
      ·have c42b0 : (bt a0 I == 42) = false := beq_eq_false_iff_ne.mpr d42
       by_cases d63 : bt a0 I = 63
       ·have c63b0 : (bt a0 I == 63) = true := beq_iff_eq.mpr d63
        have HN := am_ d63
        clear d63
        go_wp2_with (first | ((with_reducible refine gate_builtin (b := .append) (xs := #[.tmp 44, .tmp 45]) rfl ?_); at_builtin; refine Kd.R_append (Kd.int .i64) (w0 := w) w.heap.size rfl (.tmp 44) (.tmp 45) 76 3 (.int .i64 0) 8 rfl Tryd.underlying76 i3 rfl (by decide) (by omega) (.slice Ao nw.length co) nw (-2) [.int .i64 (-2)] (fun _ => True) (fun _ => False) rfl rfl ?aP (fun _ hk => hk.elim) ?aF ?aO ?aB ?aS ?aL ?_; (case aP => exact rfl); (case aB => exact bl_); (case aF => exact (fun _ _ => trivial)); (case aO => exact (ro_ HO_5)); (case aS => exact (below_size bl_)); (case aL => have := HL.out; omega); intro v90 w90 ho hb hg hat; have n0_ := am_ (move_apart (show Kd.S (Kd.slice 3 (Kd.int .i64)) 76 _ w.heap.size _ u4 o from sq_ HO_4) hg hat); have n1_ := am_ hb; have n2_ := am_ ho; clear HO_4 HO_5 HB; have HO_4 := n0_; have HB := n1_; have HO_5 := n2_; clear n0_ n1_ n2_ ho hb hg hat))
        go_roundg (a0.size - (i + 1))
        case measure => have h1_ := HI.out; have h2_ := HL.out; have h3_ := HIL.out; omega
        case rel => exact ⟨o, nw ++ [-2], i + 1, (by first | rfl | (have h1_ := HI.out; have h2_ := HL.out; have h3_ := HIL.out; congr 1; unfold wrap64; omega)), ⟨by have h1_ := HI.out; have h2_ := HL.out; have h3_ := HIL.out; simp only [List.length_append, List.length_singleton, List.length_nil]; omega⟩, ⟨(altA_any (by have h1_ := HI.out; have h3_ := HIL.out; omega) (by rw [HI.out]; exact HN.out)).symm.trans HA.out⟩, ⟨sq_ HO_4⟩, ⟨ro_ HO_5⟩, ⟨bl_⟩⟩
       ·have c63b0 : (bt a0 I == 63) = false := beq_eq_false_iff_ne.mpr d63
        by_cases d92 : bt a0 I = 92
        ·have c92b0 : (bt a0 I == 92) = true := beq_iff_eq.mpr d92
         have H92 := am_ (show bt a0 (i : Int) = 92 by rw [HI.out]; exact d92)
         obtain ⟨J, hJ⟩ : ∃ J : Int, I + 1 = J := ⟨_, rfl⟩
         have hJw : IntKind.i64.wrap (I + 1) = J := by have h1_ := HI.out; have h2_ := HL.out; rw [IntKind.wrap_i64]; omega
         have hJv : wrap64 (I + 1) = J := by have h1_ := HI.out; have h2_ := HL.out; unfold wrap64; omega
         have HJ := am_ (show ((i + 1 : Nat) : Int) = J by have h1_ := HI.out; omega)
         clear d92 d124 d42 d63 hJ
         by_cases e1 : J = (a0.size : Int)
         ·have e1b0 : (J == (a0.size : Int)) = true := beq_iff_eq.mpr e1
          obtain ⟨rfl, rfl⟩ : r1 = [] ∧ r2 = false := by have h := (altA_cut (by have h1_ := HI.out; have h3_ := HIL.out; omega) H92.out (by have h1_ := HJ.out; omega)).symm.trans HA.out; simp only [Prod.mk.injEq] at h; exact ⟨h.1.symm, h.2.symm⟩
          clear e1
          go_wp2
          go_ret2
          exact ⟨_, rf_, ni_, bl_⟩
         ·have e1b0 : (J == (a0.size : Int)) = false := beq_eq_false_iff_ne.mpr e1
          have j1 : J < (a0.size : Int) := by have h1_ := HJ.out; have h2_ := HIL.out; have h3_ := HI.out; omega
          have j0 : 0 ≤ J := by have h1_ := HJ.out; omega
          have HE := am_ ((altA_esc (s := a0) (i := i) (by have h1_ := HJ.out; omega) H92.out).symm.trans HA.out)
          have HJL := am_ j1
          have hx7 := bt_at a0 J
          have p7 := eq_true j0
          have q7 := eq_true j1
          clear j0 j1 e1
          by_cases f42 : bt a0 J = 42
          ·have f42b0 : (bt a0 J != 42) = false := bne_eq_false_iff_eq.mpr f42
           have HF := am_ f42
           clear f42
           go_wp2_with (first | ((with_reducible refine gate_builtin (b := .append) (xs := #[.tmp 79, .tmp 84]) rfl ?_); at_builtin; refine Kd.R_append (Kd.int .i64) (w0 := w) w.heap.size rfl (.tmp 79) (.tmp 84) 76 3 (.int .i64 0) 8 rfl Tryd.underlying76 i3 rfl (by decide) (by omega) (.slice Ao nw.length co) nw (wrap64 (bt a0 J)) [.int .i64 (wrap64 (bt a0 J))] (fun _ => True) (fun _ => False) rfl rfl ?aP (fun _ hk => hk.elim) ?aF ?aO ?aB ?aS ?aL ?_; (case aP => exact rfl); (case aB => exact bl_); (case aF => exact (fun _ _ => trivial)); (case aO => exact (ro_ HO_5)); (case aS => exact (below_size bl_)); (case aL => have := HL.out; omega); intro v90 w90 ho hb hg hat; have n0_ := am_ (move_apart (show Kd.S (Kd.slice 3 (Kd.int .i64)) 76 _ w.heap.size _ u4 o from sq_ HO_4) hg hat); have n1_ := am_ hb; have n2_ := am_ ho; clear HO_4 HO_5 HB; have HO_4 := n0_; have HB := n1_; have HO_5 := n2_; clear n0_ n1_ n2_ ho hb hg hat))
           go_roundg (a0.size - (i + 2))
           case measure => have h1_ := HI.out; have h2_ := HL.out; have h3_ := HIL.out; omega
           case rel => exact ⟨o, nw ++ [wrap64 (bt a0 J)], i + 2, (by first | rfl | (have h1_ := HI.out; have h2_ := HL.out; have h3_ := HIL.out; have h4_ := HJ.out; have h5_ := HJL.out; congr 1; unfold wrap64; omega)), ⟨by have h1_ := HI.out; have h2_ := HL.out; have h3_ := HIL.out; have h4_ := HJ.out; have h5_ := HJL.out; simp only [List.length_append, List.length_singleton, List.length_nil]; omega⟩, ⟨by have h := HE.out; rw [HJ.out, if_pos (by unfold okE; rw [HF.out]; rfl)] at h; rw [wrap_bt]; exact h⟩, ⟨sq_ HO_4⟩, ⟨ro_ HO_5⟩, ⟨bl_⟩⟩
          ·have f42b0 : (bt a0 J != 42) = true := bne_iff_ne.mpr f42
           by_cases f63 : bt a0 J = 63
           ·have f63b0 : (bt a0 J != 63) = false := bne_eq_false_iff_eq.mpr f63
            have HF := am_ f63
            clear f63
            go_wp2_with (first | ((with_reducible refine gate_builtin (b := .append) (xs := #[.tmp 79, .tmp 84]) rfl ?_); at_builtin; refine Kd.R_append (Kd.int .i64) (w0 := w) w.heap.size rfl (.tmp 79) (.tmp 84) 76 3 (.int .i64 0) 8 rfl Tryd.underlying76 i3 rfl (by decide) (by omega) (.slice Ao nw.length co) nw (wrap64 (bt a0 J)) [.int .i64 (wrap64 (bt a0 J))] (fun _ => True) (fun _ => False) rfl rfl ?aP (fun _ hk => hk.elim) ?aF ?aO ?aB ?aS ?aL ?_; (case aP => exact rfl); (case aB => exact bl_); (case aF => exact (fun _ _ => trivial)); (case aO => exact (ro_ HO_5)); (case aS => exact (below_size bl_)); (case aL => have := HL.out; omega); intro v90 w90 ho hb hg hat; have n0_ := am_ (move_apart (show Kd.S (Kd.slice 3 (Kd.int .i64)) 76 _ w.heap.size _ u4 o from sq_ HO_4) hg hat); have n1_ := am_ hb; have n2_ := am_ ho; clear HO_4 HO_5 HB; have HO_4 := n0_; have HB := n1_; have HO_5 := n2_; clear n0_ n1_ n2_ ho hb hg hat))
            go_roundg (a0.size - (i + 2))
            case measure => have h1_ := HI.out; have h2_ := HL.out; have h3_ := HIL.out; omega
            case rel => exact ⟨o, nw ++ [wrap64 (bt a0 J)], i + 2, (by first | rfl | (have h1_ := HI.out; have h2_ := HL.out; have h3_ := HIL.out; have h4_ := HJ.out; have h5_ := HJL.out; congr 1; unfold wrap64; omega)), ⟨by have h1_ := HI.out; have h2_ := HL.out; have h3_ := HIL.out; have h4_ := HJ.out; have h5_ := HJL.out; simp only [List.length_append, List.length_singleton, List.length_nil]; omega⟩, ⟨by have h := HE.out; rw [HJ.out, if_pos (by unfold okE; rw [HF.out]; rfl)] at h; rw [wrap_bt]; exact h⟩, ⟨sq_ HO_4⟩, ⟨ro_ HO_5⟩, ⟨bl_⟩⟩
           ·have f63b0 : (bt a0 J != 63) = true := bne_iff_ne.mpr f63
            by_cases f124 : bt a0 J = 124
            ·have f124b0 : (bt a0 J != 124) = false := bne_eq_false_iff_eq.mpr f124
             have HF := am_ f124
             clear f124
             go_wp2_with (first | ((with_reducible refine gate_builtin (b := .append) (xs := #[.tmp 79, .tmp 84]) rfl ?_); at_builtin; refine Kd.R_append (Kd.int .i64) (w0 := w) w.heap.size rfl (.tmp 79) (.tmp 84) 76 3 (.int .i64 0) 8 rfl Tryd.underlying76 i3 rfl (by decide) (by omega) (.slice Ao nw.length co) nw (wrap64 (bt a0 J)) [.int .i64 (wrap64 (bt a0 J))] (fun _ => True) (fun _ => False) rfl rfl ?aP (fun _ hk => hk.elim) ?aF ?aO ?aB ?aS ?aL ?_; (case aP => exact rfl); (case aB => exact bl_); (case aF => exact (fun _ _ => trivial)); (case aO => exact (ro_ HO_5)); (case aS => exact (below_size bl_)); (case aL => have := HL.out; omega); intro v90 w90 ho hb hg hat; have n0_ := am_ (move_apart (show Kd.S (Kd.slice 3 (Kd.int .i64)) 76 _ w.heap.size _ u4 o from sq_ HO_4) hg hat); have n1_ := am_ hb; have n2_ := am_ ho; clear HO_4 HO_5 HB; have HO_4 := n0_; have HB := n1_; have HO_5 := n2_; clear n0_ n1_ n2_ ho hb hg hat))
             go_roundg (a0.size - (i + 2))
             case measure => have h1_ := HI.out; have h2_ := HL.out; have h3_ := HIL.out; omega
             case rel => exact ⟨o, nw ++ [wrap64 (bt a0 J)], i + 2, (by first | rfl | (have h1_ := HI.out; have h2_ := HL.out; have h3_ := HIL.out; have h4_ := HJ.out; have h5_ := HJL.out; congr 1; unfold wrap64; omega)), ⟨by have h1_ := HI.out; have h2_ := HL.out; have h3_ := HIL.out; have h4_ := HJ.out; have h5_ := HJL.out; simp only [List.length_append, List.length_singleton, List.length_nil]; omega⟩, ⟨by have h := HE.out; rw [HJ.out, if_pos (by unfold okE; rw [HF.out]; rfl)] at h; rw [wrap_bt]; exact h⟩, ⟨sq_ HO_4⟩, ⟨ro_ HO_5⟩, ⟨bl_⟩⟩
            ·have f124b0 : (bt a0 J != 124) = true := bne_iff_ne.mpr f124
             by_cases f92 : bt a0 J = 92
             ·have f92b0 : (bt a0 J != 92) = false := bne_eq_false_iff_eq.mpr f92
              have HF := am_ f92
              clear f92
              go_wp2_with (first | ((with_reducible refine gate_builtin (b := .append) (xs := #[.tmp 79, .tmp 84]) rfl ?_); at_builtin; refine Kd.R_append (Kd.int .i64) (w0 := w) w.heap.size rfl (.tmp 79) (.tmp 84) 76 3 (.int .i64 0) 8 rfl Tryd.underlying76 i3 rfl (by decide) (by omega) (.slice Ao nw.length co) nw (wrap64 (bt a0 J)) [.int .i64 (wrap64 (bt a0 J))] (fun _ => True) (fun _ => False) rfl rfl ?aP (fun _ hk => hk.elim) ?aF ?aO ?aB ?aS ?aL ?_; (case aP => exact rfl); (case aB => exact bl_); (case aF => exact (fun _ _ => trivial)); (case aO => exact (ro_ HO_5)); (case aS => exact (below_size bl_)); (case aL => have := HL.out; omega); intro v90 w90 ho hb hg hat; have n0_ := am_ (move_apart (show Kd.S (Kd.slice 3 (Kd.int .i64)) 76 _ w.heap.size _ u4 o from sq_ HO_4) hg hat); have n1_ := am_ hb; have n2_ := am_ ho; clear HO_4 HO_5 HB; have HO_4 := n0_; have HB := n1_; have HO_5 := n2_; clear n0_ n1_ n2_ ho hb hg hat))
              go_roundg (a0.size - (i + 2))
              case measure => have h1_ := HI.out; have h2_ := HL.out; have h3_ := HIL.out; omega
              case rel => exact ⟨o, nw ++ [wrap64 (bt a0 J)], i + 2, (by first | rfl | (have h1_ := HI.out; have h2_ := HL.out; have h3_ := HIL.out; have h4_ := HJ.out; have h5_ := HJL.out; congr 1; unfold wrap64; omega)), ⟨by have h1_ := HI.out; have h2_ := HL.out; have h3_ := HIL.out; have h4_ := HJ.out; have h5_ := HJL.out; simp only [List.length_append, List.length_singleton, List.length_nil]; omega⟩, ⟨by have h := HE.out; rw [HJ.out, if_pos (by unfold okE; rw [HF.out]; rfl)] at h; rw [wrap_bt]; exact h⟩, ⟨sq_ HO_4⟩, ⟨ro_ HO_5⟩, ⟨bl_⟩⟩
             ·have f92b0 : (bt a0 J != 92) = true := bne_iff_ne.mpr f92
              obtain ⟨rfl, rfl⟩ : r1 = [] ∧ r2 = false := by have h := HE.out; rw [HJ.out, if_neg (by unfold okE; rw [decide_eq_false f42, decide_eq_false f63, decide_eq_false f124, decide_eq_false f92]; decide)] at h; simp only [Prod.mk.injEq] at h; exact ⟨h.1.symm, h.2.symm⟩
              clear f42 f63 f124 f92
              go_wp2
              go_ret2
              exact ⟨_, rf_, ni_, bl_⟩
        ·have c92b0 : (bt a0 I == 92) = false := beq_eq_false_iff_ne.mpr d92
         have HN := am_ (And.intro d124 (And.intro d42 (And.intro d63 d92)))
         clear d92 d124 d42 d63
         go_wp2_with (first | ((with_reducible refine gate_builtin (b := .append) (xs := #[.tmp 24, .tmp 29]) rfl ?_); at_builtin; refine Kd.R_append (Kd.int .i64) (w0 := w) w.heap.size rfl (.tmp 24) (.tmp 29) 76 3 (.int .i64 0) 8 rfl Tryd.underlying76 i3 rfl (by decide) (by omega) (.slice Ao nw.length co) nw (wrap64 (bt a0 I)) [.int .i64 (wrap64 (bt a0 I))] (fun _ => True) (fun _ => False) rfl rfl ?aP (fun _ hk => hk.elim) ?aF ?aO ?aB ?aS ?aL ?_; (case aP => exact rfl); (case aB => exact bl_); (case aF => exact (fun _ _ => trivial)); (case aO => exact (ro_ HO_5)); (case aS => exact (below_size bl_)); (case aL => have := HL.out; omega); intro v90 w90 ho hb hg hat; have n0_ := am_ (move_apart (show Kd.S (Kd.slice 3 (Kd.int .i64)) 76 _ w.heap.size _ u4 o from sq_ HO_4) hg hat); have n1_ := am_ hb; have n2_ := am_ ho; clear HO_4 HO_5 HB; have HO_4 := n0_; have HB := n1_; have HO_5 := n2_; clear n0_ n1_ n2_ ho hb hg hat))
         go_roundg (a0.size - (i + 1))
         case measure => have h1_ := HI.out; have h2_ := HL.out; have h3_ := HIL.out; omega
         case rel => exact ⟨o, nw ++ [wrap64 (bt a0 I)], i + 1, (by first | rfl | (have h1_ := HI.out; have h2_ := HL.out; have h3_ := HIL.out; congr 1; unfold wrap64; omega)), ⟨by have h1_ := HI.out; have h2_ := HL.out; have h3_ := HIL.out; simp only [List.length_append, List.length_singleton, List.length_nil]; omega⟩, ⟨by rw [wrap_bt, ← HI.out]; exact (altA_on (by have h1_ := HI.out; have h3_ := HIL.out; omega) (by rw [HI.out]; exact HN.out.1) (by rw [HI.out]; exact HN.out.2.1) (by rw [HI.out]; exact HN.out.2.2.1) (by rw [HI.out]; exact HN.out.2.2.2)).symm.trans HA.out⟩, ⟨sq_ HO_4⟩, ⟨ro_ HO_5⟩, ⟨bl_⟩⟩
    ·have c4b0 : decide (I < (a0.size : Int)) = false := decide_eq_false c4
     obtain ⟨rfl, rfl⟩ : r1 = o ++ [nw] ∧ r2 = true := by have h := (altA_end (o := o) (nw := nw) (show ¬ i < a0.size by omega)).symm.trans HA.out; simp only [Prod.mk.injEq] at h; exact ⟨h.1.symm, h.2.symm⟩
     clear c4 hI
     go_wp2_with (first | ((with_reducible refine gate_builtin (b := .append) (xs := #[.tmp 86, .tmp 88]) rfl ?_); at_builtin; refine Kd.S_append (Kd.slice 3 (Kd.int .i64)) (w0 := w) w.heap.size rfl (.tmp 86) (.tmp 88) 70 76 (.slice none 0 0) 24 rfl Tryd.underlying70 iS rfl (by decide) (by omega) u4 o nw [.slice Ao nw.length co] (fun _ => True) (fun k_ => some k_ = (.slice Ao nw.length co : Value).ownBlock) rfl rfl ?aP (fun k_ hk => ⟨trivial, fun he => (Kd.S_R HO_4.out).1 k_ he.symm hk⟩) ?aF ?aO ?aB ?aS ?aL ?_; (case aP => exact Kd.M_row (Kd.R_tight rfl (show Kd.R (Kd.int .i64) 3 _ w.heap.size (fun _ => True) (.slice Ao nw.length co) nw from ro_ HO_5))); (case aB => exact bl_); (case aF => exact (fun _ _ => trivial)); (case aO => exact Kd.S_mono (show Kd.S (Kd.slice 3 (Kd.int .i64)) 76 _ w.heap.size _ u4 o from sq_ HO_4) (fun _ hk => ⟨trivial, hk⟩)); (case aS => exact (below_size bl_)); (case aL => have := HL.out; omega); intro v90 w90 ho hb hg hat; have n1_ := am_ hb; have n2_ := am_ ho; clear HO_4 HO_5 HB; have HO_4 := n2_; have HB := n1_; clear n1_ n2_ ho hb hg hat))
     go_ret2
     exact ⟨_, rf_, HO_4.out, bl_⟩

/-! ### spec_GoodPattern: function 29 -/
def spec_GoodPattern.f (k : Nat) (a0 : ByteArray) : Option (Bool) := (spec_l2Alternatives.f k a0).bind fun bt1001 => (some bt1001.2)
theorem spec_GoodPattern.mono : ∀ a0 k, LeO (spec_GoodPattern.f k a0) (spec_GoodPattern.f (k + 1) a0) := by
 intro a0 k
 unfold spec_GoodPattern.f
 repeat' with_reducible first | apply spec_l2Alternatives.mono | apply LeO.refl | apply LeO.none | apply LeO.ite | refine LeO.bind ?_ (fun _ => ?_)
set_option maxHeartbeats 8000000 in
set_option maxRecDepth 100000 in
theorem spec_GoodPattern.calls (k : Nat) (a0 : ByteArray) (r : Bool) (w : World) (h : spec_GoodPattern.f k a0 = some r) :
  Calls Tryd.prog 29 #[.string a0] w fun e w' => e = .returned (.bool r) ∧ Below w.heap.size w w' := by
 have HB := am_ (Below.refl w.heap.size w); have H := h; clear h; unfold spec_GoodPattern.f at H; replace H := bs_ H; obtain ⟨⟨t1001, t1002⟩, A2, H⟩ := H; replace H : (some t1002) = some r := H; obtain rfl := si_ H; go_enter Tryd.func29, Tryd.ntmps29; go_wp2_with (first | ((with_reducible refine gate_callee (f := 41) rfl ?_); refine gl_ 7 Tryd.func41 #[.string a0] ?_; (with_reducible refine (spec_l2Alternatives.calls k a0 t1001 t1002 _ A2.out).mono ?_); rintro e w3 ⟨v1003, rfl, ho0, hb⟩; refine ⟨_, rfl, ?_⟩; have HO1004 := am_ (Kd.S_lower ho0 (below_size bl_)); replace HB := am_ (below_step bl_ hb); (try clear hb); (try clear ho0))); go_ret; exact ⟨rf_, bl_⟩

/-! ### spec_GoodMatchers: function 18 -/
def spec_GoodMatchers.l0 : Nat → List (S35) → Int → Int → Option (Bool)
 | 0, _, _, _ => none
 | k + 1, x8, x9, x10 => if x10 < x9 then (if 0 ≤ x10 then (if x10 < (x8.length : Int) then ((spec_l2Name.f k ((rd_T35 x8 x10).f0)).bind fun t1003 => (if t1003 = true then (if ((rd_T35 x8 x10).f1) < 1 then (some false) else (if ((rd_T35 x8 x10).f1) > 4 then (some false) else (if (((rd_T35 x8 x10).f2).size : Int) > 100 then (some false) else ((spec_l2Printed.f k ((rd_T35 x8 x10).f2)).bind fun t1004 => (if t1004 = true then (if ((rd_T35 x8 x10).f1) ≥ 3 then ((spec_GoodPattern.f k ((rd_T35 x8 x10).f2)).bind fun t1005 => (if t1005 = true then (spec_GoodMatchers.l0 k x8 x9 (wrap64 (x10 + 1))) else (some false))) else (spec_GoodMatchers.l0 k x8 x9 (wrap64 (x10 + 1)))) else (some false)))))) else (some false))) else (none)) else (none)) else (some true)
def spec_GoodMatchers.f (k : Nat) (l0 : List (S35)) : Option (Bool) := if (l0.length : Int) > 10 then (some false) else (spec_GoodMatchers.l0 k l0 (l0.length : Int) 0)
theorem spec_GoodMatchers.mono_l : ∀ k, (∀ y0 y1 y2, LeO (spec_GoodMatchers.l0 k y0 y1 y2) (spec_GoodMatchers.l0 (k + 1) y0 y1 y2))
 | 0 => fun _ _ _ r h => by simp [spec_GoodMatchers.l0] at h
 | k + 1 => by
  have ih0 := spec_GoodMatchers.mono_l k
  ·intro y0 y1 y2
   unfold spec_GoodMatchers.l0
   repeat' with_reducible first | apply ih0 | apply spec_GoodPattern.mono | apply spec_l2Name.mono | apply spec_l2Printed.mono | apply LeO.refl | apply LeO.none | apply LeO.ite | refine LeO.bind ?_ (fun _ => ?_)
theorem spec_GoodMatchers.mono : ∀ a0 k, LeO (spec_GoodMatchers.f k a0) (spec_GoodMatchers.f (k + 1) a0) := by
 intro a0 k
 have ih0 := spec_GoodMatchers.mono_l k
 unfold spec_GoodMatchers.f
 repeat' with_reducible first | apply ih0 | apply spec_GoodPattern.mono | apply spec_l2Name.mono | apply spec_l2Printed.mono | apply LeO.refl | apply LeO.none | apply LeO.ite | refine LeO.bind ?_ (fun _ => ?_)
set_option maxHeartbeats 8000000 in
set_option maxRecDepth 100000 in
theorem spec_GoodMatchers.calls (k : Nat) (A0 : Option Addr) (c0 : Nat) (l0 : List (S35)) (r : Bool) (w : World) (hr0 : Kd.C k35 w A0 l0.length l0) (hc0 : l0.length ≤ c0) (h : spec_GoodMatchers.f k l0 = some r) :
  Calls Tryd.prog 18 #[.slice A0 l0.length c0] w fun e w' => e = .returned (.bool r) ∧ Below w.heap.size w w' := by
 have hu35 := Tryd.underlying35; have HR0 := am_ hr0; have HC0 := am_ hc0; clear hr0 hc0; have HB := am_ (Below.refl w.heap.size w); have H := h; clear h; unfold spec_GoodMatchers.f at H
 by_cases c2 : (l0.length : Int) > 10
 ·rw [if_pos c2] at H; have c2b0 := dg_ c2; have c2b1 : decide (10 < l0.length) = true := decide_eq_true (by omega); clear c2; obtain rfl := si_ H; go_enter Tryd.func18, Tryd.ntmps18; go_wp2; go_ret; exact ⟨rf_, bl_⟩
 ·rw [if_neg c2] at H; have c2b0 := df_ c2; have c2b1 : decide (10 < l0.length) = false := decide_eq_false (by omega); clear c2; have H' := am_ H; clear H; go_enter Tryd.func18, Tryd.ntmps18; go_wp2
  go_loopg [10] k (fun kq v10 w' => ∃ (x10_1 : Int), v10 = .int .i64 x10_1 ∧ Aside0 (spec_GoodMatchers.l0 kq l0 (l0.length : Int) x10_1 = some r) ∧ Aside0 (kq ≤ k) ∧ Aside0 (Below w.heap.size w w'))
  case atStart => exact ⟨(0), rs_, H', ⟨Nat.le_refl _⟩, ⟨bl_⟩⟩
  case round =>
   clear H'; (try clear c2); (try clear c2b0); (try clear c2b1); obtain ⟨x10_1, rfl, HA, HK1, HB⟩ := hrel
   cases gk with
   | zero => exact absurd HA.out (by simp [spec_GoodMatchers.l0])
   | succ k1 =>
    have H := HA.out; clear HA; simp only [spec_GoodMatchers.l0] at H
    by_cases c3 : x10_1 < (l0.length : Int)
    ·rw [if_pos c3] at H; have c3b0 := decide_eq_true c3; clear c3; replace H := is_ H; obtain ⟨c4, H⟩ := H; have c4b0 := decide_eq_true c4; clear c4; replace H := is_ H; obtain ⟨c5, H⟩ := H; have c5b0 := decide_eq_true c5; clear c5; replace H := bs_ H; obtain ⟨t1003, A6, H⟩ := H
     by_cases c7 : t1003 = true
     ·subst c7; replace H := it_ H
      by_cases c8 : ((rd_T35 l0 x10_1).f1) < 1
      ·rw [if_pos c8] at H; have c8b0 := decide_eq_true c8; clear c8; obtain rfl := si_ H; have p1001 : 0 ≤ (x10_1 : Int) := od_; have q1001 : x10_1 < (l0.length : Int) := od_; obtain ⟨ad1001, e1001, hx1001_0, hx1001_1, hx1001_2⟩ := at_T35 HR0.out x10_1 p1001 q1001
       cases e1001
       replace hx1001_0 := kp_ HB hx1001_0; replace hx1001_1 := kp_ HB hx1001_1; replace hx1001_2 := kp_ HB hx1001_2; replace p1001 := eq_true p1001; replace q1001 := eq_true q1001; go_wp2_with (first | ((with_reducible refine gate_dst (N := 4) rfl ?_); (try (refine gate_guard (by rfl) ?_; dsimp only)); refine bx_ 4 #[.string (⟨#[]⟩ : ByteArray), .int .i64 0, .string (⟨#[]⟩ : ByteArray)] 35 ?_; intro gb1002 hg w9 hbox hb; have BK1002 := am_ (hbox); have GW1002 := am_ (gs_ hg : w.heap.size ≤ gb1002); replace HB := am_ (below_step bl_ hb); have GE1002 := GW1002; clear hb hbox hg; have hz10 := bk3_ BK1002) | ((with_reducible refine gate_callee (f := 27) rfl ?_); refine gl_ 16 Tryd.func27 #[.string ((rd_T35 l0 x10_1).f0)] ?_; (with_reducible refine (spec_l2Name.calls k1 ((rd_T35 l0 x10_1).f0) true _ A6.out).mono ?_); rintro e w' ⟨rfl, ⟨nd, rfl⟩⟩; refine ⟨_, rfl, ?_⟩)); go_ret; exact ⟨rf_, bg_⟩
      ·rw [if_neg c8] at H; have c8b0 := decide_eq_false c8; clear c8
       by_cases c11 : ((rd_T35 l0 x10_1).f1) > 4
       ·rw [if_pos c11] at H; have c11b0 := dg_ c11; clear c11; obtain rfl := si_ H; have p1001 : 0 ≤ (x10_1 : Int) := od_; have q1001 : x10_1 < (l0.length : Int) := od_; obtain ⟨ad1001, e1001, hx1001_0, hx1001_1, hx1001_2⟩ := at_T35 HR0.out x10_1 p1001 q1001
        cases e1001
        replace hx1001_0 := kp_ HB hx1001_0; replace hx1001_1 := kp_ HB hx1001_1; replace hx1001_2 := kp_ HB hx1001_2; replace p1001 := eq_true p1001; replace q1001 := eq_true q1001; go_wp2_with (first | ((with_reducible refine gate_dst (N := 4) rfl ?_); (try (refine gate_guard (by rfl) ?_; dsimp only)); refine bx_ 4 #[.string (⟨#[]⟩ : ByteArray), .int .i64 0, .string (⟨#[]⟩ : ByteArray)] 35 ?_; intro gb1002 hg w12 hbox hb; have BK1002 := am_ (hbox); have GW1002 := am_ (gs_ hg : w.heap.size ≤ gb1002); replace HB := am_ (below_step bl_ hb); have GE1002 := GW1002; clear hb hbox hg; have hz13 := bk3_ BK1002) | ((with_reducible refine gate_callee (f := 27) rfl ?_); refine gl_ 16 Tryd.func27 #[.string ((rd_T35 l0 x10_1).f0)] ?_; (with_reducible refine (spec_l2Name.calls k1 ((rd_T35 l0 x10_1).f0) true _ A6.out).mono ?_); rintro e w' ⟨rfl, ⟨nd, rfl⟩⟩; refine ⟨_, rfl, ?_⟩)); go_ret; exact ⟨rf_, bg_⟩
       ·rw [if_neg c11] at H; have c11b0 := df_ c11; clear c11
        by_cases c14 : (((rd_T35 l0 x10_1).f2).size : Int) > 100
        ·rw [if_pos c14] at H; have c14b0 := dg_ c14; have c14b1 : decide (100 < ((rd_T35 l0 x10_1).f2).size) = true := decide_eq_true (by omega); clear c14; obtain rfl := si_ H; have p1001 : 0 ≤ (x10_1 : Int) := od_; have q1001 : x10_1 < (l0.length : Int) := od_; obtain ⟨ad1001, e1001, hx1001_0, hx1001_1, hx1001_2⟩ := at_T35 HR0.out x10_1 p1001 q1001
         cases e1001
         replace hx1001_0 := kp_ HB hx1001_0; replace hx1001_1 := kp_ HB hx1001_1; replace hx1001_2 := kp_ HB hx1001_2; replace p1001 := eq_true p1001; replace q1001 := eq_true q1001; go_wp2_with (first | ((with_reducible refine gate_dst (N := 4) rfl ?_); (try (refine gate_guard (by rfl) ?_; dsimp only)); refine bx_ 4 #[.string (⟨#[]⟩ : ByteArray), .int .i64 0, .string (⟨#[]⟩ : ByteArray)] 35 ?_; intro gb1002 hg w15 hbox hb; have BK1002 := am_ (hbox); have GW1002 := am_ (gs_ hg : w.heap.size ≤ gb1002); replace HB := am_ (below_step bl_ hb); have GE1002 := GW1002; clear hb hbox hg; have hz16 := bk3_ BK1002) | ((with_reducible refine gate_callee (f := 27) rfl ?_); refine gl_ 16 Tryd.func27 #[.string ((rd_T35 l0 x10_1).f0)] ?_; (with_reducible refine (spec_l2Name.calls k1 ((rd_T35 l0 x10_1).f0) true _ A6.out).mono ?_); rintro e w' ⟨rfl, ⟨nd, rfl⟩⟩; refine ⟨_, rfl, ?_⟩)); go_ret; exact ⟨rf_, bg_⟩
        ·rw [if_neg c14] at H; have c14b0 := df_ c14; have c14b1 : decide (100 < ((rd_T35 l0 x10_1).f2).size) = false := decide_eq_false (by omega); clear c14; replace H := bs_ H; obtain ⟨t1004, A17, H⟩ := H
         by_cases c18 : t1004 = true
         ·subst c18; replace H := it_ H
          by_cases c19 : ((rd_T35 l0 x10_1).f1) ≥ 3
          ·rw [if_pos c19] at H; have c19b0 : decide (3 ≤ ((rd_T35 l0 x10_1).f1)) = true := decide_eq_true c19; clear c19; replace H := bs_ H; obtain ⟨t1005, A20, H⟩ := H
           by_cases c21 : t1005 = true
           ·subst c21; replace H := it_ H; have H' := am_ H; clear H; have p1001 : 0 ≤ (x10_1 : Int) := od_; have q1001 : x10_1 < (l0.length : Int) := od_; obtain ⟨ad1001, e1001, hx1001_0, hx1001_1, hx1001_2⟩ := at_T35 HR0.out x10_1 p1001 q1001
            cases e1001
            replace hx1001_0 := kp_ HB hx1001_0; replace hx1001_1 := kp_ HB hx1001_1; replace hx1001_2 := kp_ HB hx1001_2; replace p1001 := eq_true p1001; replace q1001 := eq_true q1001; go_wp2_with (first | ((with_reducible refine gate_dst (N := 4) rfl ?_); (try (refine gate_guard (by rfl) ?_; dsimp only)); refine bx_ 4 #[.string (⟨#[]⟩ : ByteArray), .int .i64 0, .string (⟨#[]⟩ : ByteArray)] 35 ?_; intro gb1002 hg w22 hbox hb; have BK1002 := am_ (hbox); have GW1002 := am_ (gs_ hg : w.heap.size ≤ gb1002); replace HB := am_ (below_step bl_ hb); have GE1002 := GW1002; clear hb hbox hg; have hz23 := bk3_ BK1002) | ((with_reducible refine gate_callee (f := 27) rfl ?_); refine gl_ 16 Tryd.func27 #[.string ((rd_T35 l0 x10_1).f0)] ?_; (with_reducible refine (spec_l2Name.calls k1 ((rd_T35 l0 x10_1).f0) true _ A6.out).mono ?_); rintro e w' ⟨rfl, ⟨nd, rfl⟩⟩; refine ⟨_, rfl, ?_⟩) | (go_at_call 28; (with_reducible refine (spec_l2Printed.calls k1 ((rd_T35 l0 x10_1).f2) true _ A17.out).mono ?_); rintro e w' ⟨rfl, ⟨nd, rfl⟩⟩) | (go_at_call 29; (with_reducible refine (spec_GoodPattern.calls k1 ((rd_T35 l0 x10_1).f2) true _ A20.out).mono ?_); rintro e w24 ⟨rfl, hb⟩; replace BK1002 := am_ (blk_below (g := gb1002) (o := .cells #[.string ((rd_T35 l0 x10_1).f0), .int .i64 ((rd_T35 l0 x10_1).f1), .string ((rd_T35 l0 x10_1).f2)] 35 (0, 0)) (by (with_reducible repeat (first | refine blk_drewN ?_ _ | refine blk_drew ?_ | refine blk_alloc ?_ _)); refine blk_put (cs := #[.string ((rd_T35 l0 x10_1).f0), .int .i64 ((rd_T35 l0 x10_1).f1), .string (⟨#[]⟩ : ByteArray)]) ?_ 2 _ rfl; (with_reducible repeat (first | refine blk_drewN ?_ _ | refine blk_drew ?_ | refine blk_alloc ?_ _)); refine blk_put (cs := #[.string ((rd_T35 l0 x10_1).f0), .int .i64 0, .string (⟨#[]⟩ : ByteArray)]) ?_ 1 _ rfl; (with_reducible repeat (first | refine blk_drewN ?_ _ | refine blk_drew ?_ | refine blk_alloc ?_ _)); refine blk_put (cs := #[.string (⟨#[]⟩ : ByteArray), .int .i64 0, .string (⟨#[]⟩ : ByteArray)]) ?_ 0 _ rfl; (with_reducible repeat (first | refine blk_drewN ?_ _ | refine blk_drew ?_ | refine blk_alloc ?_ _)); exact BK1002.out) hb); replace HB := am_ (below_step bg_ hb); (try clear hb))); go_roundg k1
            case measure => have := HK1.out; omega
            case rel => exact ⟨(wrap64 (x10_1 + 1)), rs_, H', ⟨by have := HK1.out; omega⟩, ⟨bg_⟩⟩
           ·replace c21 := Bool.eq_false_iff.mpr c21; subst c21; replace H := if_ H; obtain rfl := si_ H; have p1001 : 0 ≤ (x10_1 : Int) := od_; have q1001 : x10_1 < (l0.length : Int) := od_; obtain ⟨ad1001, e1001, hx1001_0, hx1001_1, hx1001_2⟩ := at_T35 HR0.out x10_1 p1001 q1001
            cases e1001
            replace hx1001_0 := kp_ HB hx1001_0; replace hx1001_1 := kp_ HB hx1001_1; replace hx1001_2 := kp_ HB hx1001_2; replace p1001 := eq_true p1001; replace q1001 := eq_true q1001; go_wp2_with (first | ((with_reducible refine gate_dst (N := 4) rfl ?_); (try (refine gate_guard (by rfl) ?_; dsimp only)); refine bx_ 4 #[.string (⟨#[]⟩ : ByteArray), .int .i64 0, .string (⟨#[]⟩ : ByteArray)] 35 ?_; intro gb1002 hg w25 hbox hb; have BK1002 := am_ (hbox); have GW1002 := am_ (gs_ hg : w.heap.size ≤ gb1002); replace HB := am_ (below_step bl_ hb); have GE1002 := GW1002; clear hb hbox hg; have hz26 := bk3_ BK1002) | ((with_reducible refine gate_callee (f := 27) rfl ?_); refine gl_ 16 Tryd.func27 #[.string ((rd_T35 l0 x10_1).f0)] ?_; (with_reducible refine (spec_l2Name.calls k1 ((rd_T35 l0 x10_1).f0) true _ A6.out).mono ?_); rintro e w' ⟨rfl, ⟨nd, rfl⟩⟩; refine ⟨_, rfl, ?_⟩) | (go_at_call 28; (with_reducible refine (spec_l2Printed.calls k1 ((rd_T35 l0 x10_1).f2) true _ A17.out).mono ?_); rintro e w' ⟨rfl, ⟨nd, rfl⟩⟩) | (go_at_call 29; (with_reducible refine (spec_GoodPattern.calls k1 ((rd_T35 l0 x10_1).f2) false _ A20.out).mono ?_); rintro e w27 ⟨rfl, hb⟩; replace BK1002 := am_ (blk_below (g := gb1002) (o := .cells #[.string ((rd_T35 l0 x10_1).f0), .int .i64 ((rd_T35 l0 x10_1).f1), .string ((rd_T35 l0 x10_1).f2)] 35 (0, 0)) (by (with_reducible repeat (first | refine blk_drewN ?_ _ | refine blk_drew ?_ | refine blk_alloc ?_ _)); refine blk_put (cs := #[.string ((rd_T35 l0 x10_1).f0), .int .i64 ((rd_T35 l0 x10_1).f1), .string (⟨#[]⟩ : ByteArray)]) ?_ 2 _ rfl; (with_reducible repeat (first | refine blk_drewN ?_ _ | refine blk_drew ?_ | refine blk_alloc ?_ _)); refine blk_put (cs := #[.string ((rd_T35 l0 x10_1).f0), .int .i64 0, .string (⟨#[]⟩ : ByteArray)]) ?_ 1 _ rfl; (with_reducible repeat (first | refine blk_drewN ?_ _ | refine blk_drew ?_ | refine blk_alloc ?_ _)); refine blk_put (cs := #[.string (⟨#[]⟩ : ByteArray), .int .i64 0, .string (⟨#[]⟩ : ByteArray)]) ?_ 0 _ rfl; (with_reducible repeat (first | refine blk_drewN ?_ _ | refine blk_drew ?_ | refine blk_alloc ?_ _)); exact BK1002.out) hb); replace HB := am_ (below_step bg_ hb); (try clear hb))); go_ret; exact ⟨rf_, bg_⟩
          ·rw [if_neg c19] at H; have c19b0 : decide (3 ≤ ((rd_T35 l0 x10_1).f1)) = false := decide_eq_false c19; clear c19; have H' := am_ H; clear H; have p1001 : 0 ≤ (x10_1 : Int) := od_; have q1001 : x10_1 < (l0.length : Int) := od_; obtain ⟨ad1001, e1001, hx1001_0, hx1001_1, hx1001_2⟩ := at_T35 HR0.out x10_1 p1001 q1001
           cases e1001
           replace hx1001_0 := kp_ HB hx1001_0; replace hx1001_1 := kp_ HB hx1001_1; replace hx1001_2 := kp_ HB hx1001_2; replace p1001 := eq_true p1001; replace q1001 := eq_true q1001; go_wp2_with (first | ((with_reducible refine gate_dst (N := 4) rfl ?_); (try (refine gate_guard (by rfl) ?_; dsimp only)); refine bx_ 4 #[.string (⟨#[]⟩ : ByteArray), .int .i64 0, .string (⟨#[]⟩ : ByteArray)] 35 ?_; intro gb1002 hg w28 hbox hb; have BK1002 := am_ (hbox); have GW1002 := am_ (gs_ hg : w.heap.size ≤ gb1002); replace HB := am_ (below_step bl_ hb); have GE1002 := GW1002; clear hb hbox hg; have hz29 := bk3_ BK1002) | ((with_reducible refine gate_callee (f := 27) rfl ?_); refine gl_ 16 Tryd.func27 #[.string ((rd_T35 l0 x10_1).f0)] ?_; (with_reducible refine (spec_l2Name.calls k1 ((rd_T35 l0 x10_1).f0) true _ A6.out).mono ?_); rintro e w' ⟨rfl, ⟨nd, rfl⟩⟩; refine ⟨_, rfl, ?_⟩) | (go_at_call 28; (with_reducible refine (spec_l2Printed.calls k1 ((rd_T35 l0 x10_1).f2) true _ A17.out).mono ?_); rintro e w' ⟨rfl, ⟨nd, rfl⟩⟩)); go_roundg k1
           case measure => have := HK1.out; omega
           case rel => exact ⟨(wrap64 (x10_1 + 1)), rs_, H', ⟨by have := HK1.out; omega⟩, ⟨bg_⟩⟩
         ·replace c18 := Bool.eq_false_iff.mpr c18; subst c18; replace H := if_ H; obtain rfl := si_ H; have p1001 : 0 ≤ (x10_1 : Int) := od_; have q1001 : x10_1 < (l0.length : Int) := od_; obtain ⟨ad1001, e1001, hx1001_0, hx1001_1, hx1001_2⟩ := at_T35 HR0.out x10_1 p1001 q1001
          cases e1001
          replace hx1001_0 := kp_ HB hx1001_0; replace hx1001_1 := kp_ HB hx1001_1; replace hx1001_2 := kp_ HB hx1001_2; replace p1001 := eq_true p1001; replace q1001 := eq_true q1001; go_wp2_with (first | ((with_reducible refine gate_dst (N := 4) rfl ?_); (try (refine gate_guard (by rfl) ?_; dsimp only)); refine bx_ 4 #[.string (⟨#[]⟩ : ByteArray), .int .i64 0, .string (⟨#[]⟩ : ByteArray)] 35 ?_; intro gb1002 hg w30 hbox hb; have BK1002 := am_ (hbox); have GW1002 := am_ (gs_ hg : w.heap.size ≤ gb1002); replace HB := am_ (below_step bl_ hb); have GE1002 := GW1002; clear hb hbox hg; have hz31 := bk3_ BK1002) | ((with_reducible refine gate_callee (f := 27) rfl ?_); refine gl_ 16 Tryd.func27 #[.string ((rd_T35 l0 x10_1).f0)] ?_; (with_reducible refine (spec_l2Name.calls k1 ((rd_T35 l0 x10_1).f0) true _ A6.out).mono ?_); rintro e w' ⟨rfl, ⟨nd, rfl⟩⟩; refine ⟨_, rfl, ?_⟩) | (go_at_call 28; (with_reducible refine (spec_l2Printed.calls k1 ((rd_T35 l0 x10_1).f2) false _ A17.out).mono ?_); rintro e w' ⟨rfl, ⟨nd, rfl⟩⟩)); go_ret; exact ⟨rf_, bg_⟩
     ·replace c7 := Bool.eq_false_iff.mpr c7; subst c7; replace H := if_ H; obtain rfl := si_ H; have p1001 : 0 ≤ (x10_1 : Int) := od_; have q1001 : x10_1 < (l0.length : Int) := od_; obtain ⟨ad1001, e1001, hx1001_0, hx1001_1, hx1001_2⟩ := at_T35 HR0.out x10_1 p1001 q1001
      cases e1001
      replace hx1001_0 := kp_ HB hx1001_0; replace hx1001_1 := kp_ HB hx1001_1; replace hx1001_2 := kp_ HB hx1001_2; replace p1001 := eq_true p1001; replace q1001 := eq_true q1001; go_wp2_with (first | ((with_reducible refine gate_dst (N := 4) rfl ?_); (try (refine gate_guard (by rfl) ?_; dsimp only)); refine bx_ 4 #[.string (⟨#[]⟩ : ByteArray), .int .i64 0, .string (⟨#[]⟩ : ByteArray)] 35 ?_; intro gb1002 hg w32 hbox hb; have BK1002 := am_ (hbox); have GW1002 := am_ (gs_ hg : w.heap.size ≤ gb1002); replace HB := am_ (below_step bl_ hb); have GE1002 := GW1002; clear hb hbox hg; have hz33 := bk3_ BK1002) | ((with_reducible refine gate_callee (f := 27) rfl ?_); refine gl_ 16 Tryd.func27 #[.string ((rd_T35 l0 x10_1).f0)] ?_; (with_reducible refine (spec_l2Name.calls k1 ((rd_T35 l0 x10_1).f0) false _ A6.out).mono ?_); rintro e w' ⟨rfl, ⟨nd, rfl⟩⟩; refine ⟨_, rfl, ?_⟩)); go_ret; exact ⟨rf_, bg_⟩
    ·rw [if_neg c3] at H; have c3b0 := decide_eq_false c3; clear c3; obtain rfl := si_ H; go_wp2; go_ret; exact ⟨rf_, bl_⟩

/-! ### spec_l2ReadMatchers: function 9 -/
mutual
def spec_l2ReadMatchers.j0 : Nat → ByteArray → Int → List (S35) → Bool → Option ((List (S35)) × Int)
 | 0, _, _, _, _ => none
 | k + 1, x0, x1, x6, x21 => if x21 = true then (some (([] : List (S35)), (-1))) else (if (wrap64 (x1 + 1)) < (x0.size : Int) then (if 0 ≤ (wrap64 (x1 + 1)) then (spec_l2ReadMatchers.j1 k x0 (wrap64 (x1 + 1)) x6 ((bt x0 (wrap64 (x1 + 1))) == 125)) else (none)) else (spec_l2ReadMatchers.j1 k x0 (wrap64 (x1 + 1)) x6 false))
def spec_l2ReadMatchers.j1 : Nat → ByteArray → Int → List (S35) → Bool → Option ((List (S35)) × Int)
 | 0, _, _, _, _ => none
 | k + 1, x0, x1, x6, x33 => if x33 = true then (some (([] : List (S35)), wrap64 (x1 + 1))) else (spec_l2ReadMatchers.l0 k x0 x1 x6)
def spec_l2ReadMatchers.l0 : Nat → ByteArray → Int → List (S35) → Option ((List (S35)) × Int)
 | 0, _, _, _ => none
 | k + 1, x0, x1, x6 => if (x6.length : Int) ≤ 10 then ((spec_l2NameAt.f k x0 x1).bind fun t1002 => (if 0 ≤ x1 then (if x1 ≤ t1002 then (if t1002 ≤ (x0.size : Int) then (spec_l2ReadMatchers.l1 k x0 x6 t1002 (-1) 4 (x0.extract (x1 : Int).toNat (t1002 : Int).toNat) 0 (⟨#[]⟩ : ByteArray)) else (none)) else (none)) else (none))) else (some (([] : List (S35)), (-1)))
def spec_l2ReadMatchers.l1 : Nat → ByteArray → List (S35) → Int → Int → Int → ByteArray → Int → ByteArray → Option ((List (S35)) × Int)
 | 0, _, _, _, _, _, _, _, _ => none
 | k + 1, x0, x6, x8, x9, x10, x1002000, x1002001, x1002002 => if x10 ≥ 1 then ((spec_l2Ops.f).bind fun t1003 => (if 0 ≤ x10 then (if x10 < (t1003.length : Int) then (if x9 < 0 then (if 0 ≤ x8 then (if x8 ≤ (x0.size : Int) then (if (rdOf ByteArray.empty t1003 x10).size + 1 ≤ 9223372036854775807 then ((spec_l2Head.f (x0.extract (x8 : Int).toNat x0.size) ((rdOf ByteArray.empty t1003 x10) ++ (⟨#[34]⟩ : ByteArray))).bind fun t1007 => (if t1007 = true then ((spec_l2Unquote.f k x0 (wrap64 (x8 + ((rdOf ByteArray.empty t1003 x10).size : Int)))).bind fun bt1008 => (spec_l2ReadMatchers.l1 k x0 x6 x8 bt1008.2 (wrap64 (x10 - 1)) x1002000 x10 bt1008.1)) else (spec_l2ReadMatchers.l1 k x0 x6 x8 x9 (wrap64 (x10 - 1)) x1002000 x1002001 x1002002))) else (none)) else (none)) else (none)) else (spec_l2ReadMatchers.l1 k x0 x6 x8 x9 (wrap64 (x10 - 1)) x1002000 x1002001 x1002002)) else (none)) else (none))) else (if x9 < 0 then (spec_l2ReadMatchers.j4 k x0 x6 x9 true x1002000 x1002001 x1002002) else (if x9 ≥ (x0.size : Int) then (spec_l2ReadMatchers.j4 k x0 x6 x9 true x1002000 x1002001 x1002002) else (if 0 ≤ x9 then (if x9 < (x0.size : Int) then (if (bt x0 x9) = 44 then (spec_l2ReadMatchers.j4 k x0 x6 x9 false x1002000 x1002001 x1002002) else (spec_l2ReadMatchers.j4 k x0 x6 x9 ((bt x0 x9) != 125) x1002000 x1002001 x1002002)) else (none)) else (none))))
def spec_l2ReadMatchers.j4 : Nat → ByteArray → List (S35) → Int → Bool → ByteArray → Int → ByteArray → Option ((List (S35)) × Int)
 | 0, _, _, _, _, _, _, _ => none
 | k + 1, x0, x6, x9, x97, x1002000, x1002001, x1002002 => if x97 = true then (some (([] : List (S35)), (-1))) else (if x6.length < 3518437208883 then ((some (x6 ++ [(⟨x1002000, x1002001, x1002002⟩ : S35)] : List (S35))).bind fun y1010 => (if 0 ≤ x9 then (if x9 < (x0.size : Int) then (if (bt x0 x9) = 125 then ((spec_GoodMatchers.f k y1010).bind fun t1013 => (if t1013 = true then (some (y1010, wrap64 (x9 + 1))) else (some (([] : List (S35)), (-1))))) else (spec_l2ReadMatchers.l0 k x0 (wrap64 (x9 + 1)) y1010)) else (none)) else (none))) else (none))
end
def spec_l2ReadMatchers.f (k : Nat) (a0 : ByteArray) (a1 : Int) : Option ((List (S35)) × Int) := if a1 ≥ (a0.size : Int) then (spec_l2ReadMatchers.j0 k a0 a1 ([] : List (S35)) true) else (if 0 ≤ a1 then (if a1 < (a0.size : Int) then (spec_l2ReadMatchers.j0 k a0 a1 ([] : List (S35)) ((bt a0 a1) != 123)) else (none)) else (none))
theorem spec_l2ReadMatchers.mono_l : ∀ k, (∀ y0 y1 y2 y3, LeO (spec_l2ReadMatchers.j0 k y0 y1 y2 y3) (spec_l2ReadMatchers.j0 (k + 1) y0 y1 y2 y3)) ∧ (∀ y0 y1 y2 y3, LeO (spec_l2ReadMatchers.j1 k y0 y1 y2 y3) (spec_l2ReadMatchers.j1 (k + 1) y0 y1 y2 y3)) ∧ (∀ y0 y1 y2, LeO (spec_l2ReadMatchers.l0 k y0 y1 y2) (spec_l2ReadMatchers.l0 (k + 1) y0 y1 y2)) ∧ (∀ y0 y1 y2 y3 y4 y5 y6 y7, LeO (spec_l2ReadMatchers.l1 k y0 y1 y2 y3 y4 y5 y6 y7) (spec_l2ReadMatchers.l1 (k + 1) y0 y1 y2 y3 y4 y5 y6 y7)) ∧ (∀ y0 y1 y2 y3 y4 y5 y6, LeO (spec_l2ReadMatchers.j4 k y0 y1 y2 y3 y4 y5 y6) (spec_l2ReadMatchers.j4 (k + 1) y0 y1 y2 y3 y4 y5 y6))
 | 0 => ⟨fun _ _ _ _ r h => by simp [spec_l2ReadMatchers.j0] at h, fun _ _ _ _ r h => by simp [spec_l2ReadMatchers.j1] at h, fun _ _ _ r h => by simp [spec_l2ReadMatchers.l0] at h, fun _ _ _ _ _ _ _ _ r h => by simp [spec_l2ReadMatchers.l1] at h, fun _ _ _ _ _ _ _ r h => by simp [spec_l2ReadMatchers.j4] at h⟩
 | k + 1 => by
  obtain ⟨ih0, ih1, ih2, ih3, ih4⟩ := spec_l2ReadMatchers.mono_l k
  refine ⟨?_, ?_, ?_, ?_, ?_⟩
  ·intro y0 y1 y2 y3
   unfold spec_l2ReadMatchers.j0
   repeat' with_reducible first | apply ih0 | apply ih1 | apply ih2 | apply ih3 | apply ih4 | apply spec_GoodMatchers.mono | apply spec_l2NameAt.mono | apply spec_l2Unquote.mono | apply LeO.refl | apply LeO.none | apply LeO.ite | refine LeO.bind ?_ (fun _ => ?_)
  ·intro y0 y1 y2 y3
   unfold spec_l2ReadMatchers.j1
   repeat' with_reducible first | apply ih0 | apply ih1 | apply ih2 | apply ih3 | apply ih4 | apply spec_GoodMatchers.mono | apply spec_l2NameAt.mono | apply spec_l2Unquote.mono | apply LeO.refl | apply LeO.none | apply LeO.ite | refine LeO.bind ?_ (fun _ => ?_)
  ·intro y0 y1 y2
   unfold spec_l2ReadMatchers.l0
   repeat' with_reducible first | apply ih0 | apply ih1 | apply ih2 | apply ih3 | apply ih4 | apply spec_GoodMatchers.mono | apply spec_l2NameAt.mono | apply spec_l2Unquote.mono | apply LeO.refl | apply LeO.none | apply LeO.ite | refine LeO.bind ?_ (fun _ => ?_)
  ·intro y0 y1 y2 y3 y4 y5 y6 y7
   unfold spec_l2ReadMatchers.l1
   repeat' with_reducible first | apply ih0 | apply ih1 | apply ih2 | apply ih3 | apply ih4 | apply spec_GoodMatchers.mono | apply spec_l2NameAt.mono | apply spec_l2Unquote.mono | apply LeO.refl | apply LeO.none | apply LeO.ite | refine LeO.bind ?_ (fun _ => ?_)
  ·intro y0 y1 y2 y3 y4 y5 y6
   unfold spec_l2ReadMatchers.j4
   repeat' with_reducible first | apply ih0 | apply ih1 | apply ih2 | apply ih3 | apply ih4 | apply spec_GoodMatchers.mono | apply spec_l2NameAt.mono | apply spec_l2Unquote.mono | apply LeO.refl | apply LeO.none | apply LeO.ite | refine LeO.bind ?_ (fun _ => ?_)
theorem spec_l2ReadMatchers.mono : ∀ a0 a1 k, LeO (spec_l2ReadMatchers.f k a0 a1) (spec_l2ReadMatchers.f (k + 1) a0 a1) := by
 intro a0 a1 k
 obtain ⟨ih0, ih1, ih2, ih3, ih4⟩ := spec_l2ReadMatchers.mono_l k
 unfold spec_l2ReadMatchers.f
 repeat' with_reducible first | apply ih0 | apply ih1 | apply ih2 | apply ih3 | apply ih4 | apply spec_GoodMatchers.mono | apply spec_l2NameAt.mono | apply spec_l2Unquote.mono | apply LeO.refl | apply LeO.none | apply LeO.ite | refine LeO.bind ?_ (fun _ => ?_)
set_option maxHeartbeats 8000000 in
set_option maxRecDepth 100000 in
theorem spec_l2ReadMatchers.calls (k : Nat) (a0 : ByteArray) (a1 : Int) (r1 : List (S35)) (r2 : Int) (w : World) (h : spec_l2ReadMatchers.f k a0 a1 = some (r1, r2)) :
  Calls Tryd.prog 9 #[.string a0, .int .i64 a1] w fun e w' => ∃ v0_ : Value, e = .returned (.tuple #[v0_, .int .i64 r2]) ∧ Kd.R k35 35 w' w.heap.size (fun _ => True) v0_ r1 ∧ Below w.heap.size w w' := by
 have hu35 := Tryd.underlying35; have HB := am_ (Below.refl w.heap.size w); have H : (if a1 ≥ (a0.size : Int) then (spec_l2ReadMatchers.j0 k a0 a1 ([] : List (S35)) true) else (if 0 ≤ a1 then (if a1 < (a0.size : Int) then (spec_l2ReadMatchers.j0 k a0 a1 ([] : List (S35)) ((bt a0 a1) != 123)) else (none)) else (none))) = some (r1, r2) := h; clear h; have HC3 := am_ H; clear H; go_enter Tryd.func9, Tryd.ntmps9; go_upto_region 2 with (fail)
 go_cut [21] (fun v21 wc => ∃ (kq : Nat) (x21_2 : Bool), v21 = .bool x21_2 ∧ Aside0 (spec_l2ReadMatchers.j0 kq a0 a1 ([] : List (S35)) x21_2 = some (r1, r2)) ∧ Aside0 (kq ≤ k) ∧ Aside0 (Kd.R k35 35 wc w.heap.size (fun _ => True) (.slice none 0 0) ([] : List (S35))) ∧ Aside0 (Below w.heap.size w wc))
 case first =>
  have H := HC3.out; clear HC3
  by_cases c4 : a1 ≥ (a0.size : Int)
  ·rw [if_pos c4] at H; have c4b0 : decide ((a0.size : Int) ≤ a1) = true := decide_eq_true c4; clear c4; (first | rw [c4b0] | (simp only [i64_w, i32_w]; rw [c4b0]) | skip); have H' := am_ H; clear H; go_wp2; go_meet
   case rel => exact ⟨_, (true), rs_, H', ⟨by first | omega | exact Nat.le_refl _⟩, ⟨ni_⟩, ⟨bl_⟩⟩
  ·rw [if_neg c4] at H; have c4b0 : decide ((a0.size : Int) ≤ a1) = false := decide_eq_false c4; clear c4; (first | rw [c4b0] | (simp only [i64_w, i32_w]; rw [c4b0]) | skip); replace H := is_ H; obtain ⟨c5, H⟩ := H; have c5b0 := decide_eq_true c5; clear c5; replace H := is_ H; obtain ⟨c6, H⟩ := H; have c6b0 := decide_eq_true c6; clear c6; have H' := am_ H; clear H; have p7 : 0 ≤ (a1 : Int) := od_; have q7 : a1 < (a0.size : Int) := od_; have hx7 := bt_at a0 a1; replace p7 := eq_true p7; replace q7 := eq_true q7; go_wp2; go_meet
   case rel => exact ⟨_, (((bt a0 a1) != 123)), rs_, H', ⟨by first | omega | exact Nat.le_refl _⟩, ⟨ni_⟩, ⟨bl_⟩⟩
 case rest =>
  clear HC3; obtain ⟨kq, x21_2, rfl, HA, HJ2, HO_6, HB⟩ := hcut
  cases kq with
  | zero => exact absurd HA.out (by simp [spec_l2ReadMatchers.j0])
  | succ kj2 =>
   have H := HA.out; clear HA; simp only [spec_l2ReadMatchers.j0] at H
   by_cases c8 : x21_2 = true
   ·subst c8; replace H := it_ H; simp only [Option.some.injEq, Prod.mk.injEq] at H; obtain ⟨rfl, rfl⟩ := H; go_wp2; go_ret2; exact ⟨_, rf_, ni_, bl_⟩
   ·replace c8 := Bool.eq_false_iff.mpr c8; subst c8; replace H := if_ H; have HC9 := am_ H; clear H; go_upto_region 5 with (fail)
    go_cut [33] (fun v33 wc => ∃ (kq : Nat) (x33_8 : Bool), v33 = .bool x33_8 ∧ Aside0 (spec_l2ReadMatchers.j1 kq a0 (wrap64 (a1 + 1)) ([] : List (S35)) x33_8 = some (r1, r2)) ∧ Aside0 (kq ≤ kj2) ∧ Aside0 (Kd.R k35 35 wc w.heap.size (fun _ => True) (.slice none 0 0) ([] : List (S35))) ∧ Aside0 (Below w.heap.size w wc))
    case first =>
     have H := HC9.out; clear HC9
     by_cases c10 : (wrap64 (a1 + 1)) < (a0.size : Int)
     ·rw [if_pos c10] at H; have c10b0 := decide_eq_true c10; clear c10; (first | rw [c10b0] | (simp only [i64_w, i32_w]; rw [c10b0]) | skip); obtain ⟨ji11, hji11⟩ : ∃ j_ : Int, (wrap64 (a1 + 1)) = j_ := ⟨_, rfl⟩; replace H : (if 0 ≤ (ji11) then (spec_l2ReadMatchers.j1 kj2 a0 ji11 ([] : List (S35)) ((bt a0 (ji11)) == 125)) else (none)) = some (r1, r2) := by first | (rw [hji11] at H; exact H) | (simp only [hji11] at H ⊢; exact H)
      (try rw [hji11] at c10b0); have hji11w : (IntKind.i64.wrap (a1 + 1)) = ji11 := (i64_w _).trans hji11; replace H := is_ H; obtain ⟨c12, H⟩ := H; have c12b0 := decide_eq_true c12; clear c12; have H' := am_ H; clear H; have p13 : 0 ≤ ((ji11) : Int) := od_; have q13 : (ji11) < (a0.size : Int) := od_; have hx13 := bt_at a0 (ji11); replace p13 := eq_true p13; replace q13 := eq_true q13; go_wp2; go_meet
      case rel => exact ⟨_, (((bt a0 (ji11)) == 125)), (by first | rfl | (simp; done) | (simp only [← hji11] <;> (first | rfl | simp)) | (simp [*]; done)), (by first | exact H' | (simp only [hji11]; exact H') | (rw [hji11]; exact H')), ⟨by have := HJ2.out; first | omega | exact Nat.le_refl _⟩, ⟨ro_ HO_6⟩, ⟨bl_⟩⟩
     ·rw [if_neg c10] at H; have c10b0 := decide_eq_false c10; clear c10; (first | rw [c10b0] | (simp only [i64_w, i32_w]; rw [c10b0]) | skip); have H' := am_ H; clear H; go_wp2; go_meet
      case rel => exact ⟨_, (false), rs_, H', ⟨by have := HJ2.out; first | omega | exact Nat.le_refl _⟩, ⟨ro_ HO_6⟩, ⟨bl_⟩⟩
    case rest =>
     clear HC9; (try clear c8); obtain ⟨kq, x33_8, rfl, HA, HJ8, HO_6, HB⟩ := hcut
     cases kq with
     | zero => exact absurd HA.out (by simp [spec_l2ReadMatchers.j1])
     | succ kj8 =>
      have H := HA.out; clear HA; simp only [spec_l2ReadMatchers.j1] at H
      by_cases c14 : x33_8 = true
      ·subst c14; replace H := it_ H; simp only [Option.some.injEq, Prod.mk.injEq] at H; obtain ⟨rfl, rfl⟩ := H; go_wp2; go_ret2; exact ⟨_, rf_, ni_, bl_⟩
      ·replace c14 := Bool.eq_false_iff.mpr c14; subst c14; replace H := if_ H; have H' := am_ H; clear H; go_wp2
       go_loopg [1, 6] kj8 (fun kq v1 v6 w' => ∃ (x1_3 : Int) (x6_3 : List (S35)), v1 = .int .i64 x1_3 ∧ Aside0 (spec_l2ReadMatchers.l0 kq a0 x1_3 x6_3 = some (r1, r2)) ∧ Aside0 (kq ≤ kj8) ∧ Aside0 (Kd.R k35 35 w' w.heap.size (fun _ => True) v6 x6_3) ∧ Aside0 (Below w.heap.size w w'))
       case atStart => exact ⟨((wrap64 (a1 + 1))), (([] : List (S35))), rs_, H', ⟨Nat.le_refl _⟩, ⟨ro_ HO_6⟩, ⟨bl_⟩⟩
       case round =>
        clear H'; (try clear c14); obtain ⟨x1_3, x6_3, rfl, HA, HK3, HO_6, HB⟩ := hrel
        cases gk with
        | zero => exact absurd HA.out (by simp [spec_l2ReadMatchers.l0])
        | succ k3 =>
         have H := HA.out; clear HA; simp only [spec_l2ReadMatchers.l0] at H
         by_cases c15 : (x6_3.length : Int) ≤ 10
         ·rw [if_pos c15] at H; have c15b0 := decide_eq_true c15; have c15b1 : decide (x6_3.length ≤ 10) = true := decide_eq_true (by omega); clear c15; replace H := Option.bind_eq_some_iff.mp H; obtain ⟨t1002, A160, H⟩ := H; replace H : (if 0 ≤ x1_3 then (if x1_3 ≤ t1002 then (if t1002 ≤ (a0.size : Int) then (spec_l2ReadMatchers.l1 k3 a0 x6_3 t1002 (-1) 4 (a0.extract (x1_3 : Int).toNat (t1002 : Int).toNat) 0 (⟨#[]⟩ : ByteArray)) else (none)) else (none)) else (none)) = some (r1, r2) := H; have A16 := am_ A160; clear A160; replace H := is_ H; obtain ⟨c17, H⟩ := H; have c17b0 := eq_true c17; have c17b1 := decide_eq_true c17; clear c17; replace H := is_ H; obtain ⟨c18, H⟩ := H; have c18b0 := eq_true c18; have c18b1 := decide_eq_true c18; clear c18; replace H := is_ H; obtain ⟨c19, H⟩ := H; have c19b0 := eq_true c19; have c19b1 := decide_eq_true c19; clear c19; have H' := am_ H; clear H; obtain ⟨Ao20, co20, eo20⟩ := Kd.R_slice HO_6.out; subst eo20; go_wp2_with (first | ((with_reducible refine gate_dst (N := 7) rfl ?_); (try (refine gate_guard (by rfl) ?_; dsimp only)); refine bx_ 7 #[.string (⟨#[]⟩ : ByteArray), .int .i64 0, .string (⟨#[]⟩ : ByteArray)] 35 ?_; intro gb1001 hg w21 hbox hb; have BK1001 := am_ (hbox); have GW1001 := am_ (gs_ hg : w.heap.size ≤ gb1001); replace HO_6 := am_ (Kd.R_below (Kd.R_elderB (ro_ HO_6) gb1001 (Nat.le_of_eq hg.symm)) hb); replace HB := am_ (below_step bl_ hb); have GE1001 := GW1001; clear hb hbox hg; have hz22 := bk3_ BK1001) | ((with_reducible refine gate_callee (f := 14) rfl ?_); refine gl_ 42 Tryd.func14 #[.string a0, .int .i64 x1_3] ?_; (with_reducible refine (spec_l2NameAt.calls k3 a0 x1_3 t1002 _ A16.out).mono ?_); rintro e w' ⟨rfl, ⟨nd, rfl⟩⟩; refine ⟨_, rfl, ?_⟩))
          go_loopg [9, 10] k3 (fun kq v9 v10 w' => ∃ (x9_4 : Int) (x10_4 : Int) (x1002001_4 : Int) (x1002002_4 : ByteArray), v9 = .int .i64 x9_4 ∧ v10 = .int .i64 x10_4 ∧ Aside0 (spec_l2ReadMatchers.l1 kq a0 x6_3 t1002 x9_4 x10_4 (a0.extract (x1_3 : Int).toNat (t1002 : Int).toNat) x1002001_4 x1002002_4 = some (r1, r2)) ∧ Aside0 (kq ≤ k3) ∧ Aside0 (Kd.R k35 35 w' w.heap.size (fun k_ => k_ ≠ gb1001) (.slice Ao20 x6_3.length co20) x6_3) ∧ Aside0 (w'.heap[gb1001]? = some (.cells #[.string (a0.extract (x1_3 : Int).toNat (t1002 : Int).toNat), .int .i64 x1002001_4, .string x1002002_4] 35 (0, 0))) ∧ Aside0 (Below w.heap.size w w'))
          case atStart => exact ⟨((-1)), (4), (0), ((⟨#[]⟩ : ByteArray)), rs_, rs_, H', ⟨Nat.le_refl _⟩, ⟨by (with_reducible repeat (first | apply Kd.R_alloc | apply Kd.R_drewN | apply Kd.R_drew)); exact Kd.R_mono (Kd.R_far (p := ⟨gb1001, 0, none⟩) (Kd.R_far (p := ⟨gb1001, 2, none⟩) (Kd.R_far (p := ⟨gb1001, 1, none⟩) (Kd.R_far (p := ⟨gb1001, 0, none⟩) (Kd.R_mono HO_6.out (fun k_ hk => (⟨hk, by first | exact hk.2 | exact hk⟩ : _ ∧ k_ ≠ gb1001))) (fun _ hk => by first | exact hk.2 | exact hk) (.string (⟨#[]⟩ : ByteArray))) (fun _ hk => by first | exact hk.2 | exact hk) (.int .i64 0)) (fun _ hk => by first | exact hk.2 | exact hk) (.string (⟨#[]⟩ : ByteArray))) (fun _ hk => by first | exact hk.2 | exact hk) (.string (a0.extract (x1_3 : Int).toNat (t1002 : Int).toNat))) (fun _ hk => by first | exact hk.1.2 | exact hk.1)⟩, ⟨by (with_reducible repeat (first | refine blk_drewN ?_ _ | refine blk_drew ?_ | refine blk_alloc ?_ _)); refine blk_put (cs := #[.string (⟨#[]⟩ : ByteArray), .int .i64 0, .string (⟨#[]⟩ : ByteArray)]) ?_ 0 _ rfl; (with_reducible repeat (first | refine blk_drewN ?_ _ | refine blk_drew ?_ | refine blk_alloc ?_ _)); refine blk_put (cs := #[.string (⟨#[]⟩ : ByteArray), .int .i64 0, .string (⟨#[]⟩ : ByteArray)]) ?_ 2 _ rfl; (with_reducible repeat (first | refine blk_drewN ?_ _ | refine blk_drew ?_ | refine blk_alloc ?_ _)); refine blk_put (cs := #[.string (⟨#[]⟩ : ByteArray), .int .i64 0, .string (⟨#[]⟩ : ByteArray)]) ?_ 1 _ rfl; (with_reducible repeat (first | refine blk_drewN ?_ _ | refine blk_drew ?_ | refine blk_alloc ?_ _)); refine blk_put (cs := #[.string (⟨#[]⟩ : ByteArray), .int .i64 0, .string (⟨#[]⟩ : ByteArray)]) ?_ 0 _ rfl; (with_reducible repeat (first | refine blk_drewN ?_ _ | refine blk_drew ?_ | refine blk_alloc ?_ _)); exact BK1001.out⟩, ⟨bg_⟩⟩
          case round =>
           clear H'; (try clear c15); (try clear c15b0); (try clear c15b1); (try clear c17); (try clear c17b0); (try clear c17b1); (try clear c18); (try clear c18b0); (try clear c18b1); (try clear c19); (try clear c19b0); (try clear c19b1); (try clear hz22); obtain ⟨x9_4, x10_4, x1002001_4, x1002002_4, rfl, rfl, HA, HK4, HO_6, BK1001, HB⟩ := hrel
           cases gk with
           | zero => exact absurd HA.out (by simp [spec_l2ReadMatchers.l1])
           | succ k4 =>
            have H := HA.out; clear HA; simp only [spec_l2ReadMatchers.l1] at H
            by_cases c23 : x10_4 ≥ 1
            ·rw [if_pos c23] at H; have c23b0 : decide (1 ≤ x10_4) = true := decide_eq_true c23; clear c23; replace H := Option.bind_eq_some_iff.mp H; obtain ⟨t1003, A240, H⟩ := H; replace H : (if 0 ≤ x10_4 then (if x10_4 < (t1003.length : Int) then (if x9_4 < 0 then (if 0 ≤ t1002 then (if t1002 ≤ (a0.size : Int) then (if (rdOf ByteArray.empty t1003 x10_4).size + 1 ≤ 9223372036854775807 then ((spec_l2Head.f (a0.extract (t1002 : Int).toNat a0.size) ((rdOf ByteArray.empty t1003 x10_4) ++ (⟨#[34]⟩ : ByteArray))).bind fun t1007 => (if t1007 = true then ((spec_l2Unquote.f k4 a0 (wrap64 (t1002 + ((rdOf ByteArray.empty t1003 x10_4).size : Int)))).bind fun bt1008 => (spec_l2ReadMatchers.l1 k4 a0 x6_3 t1002 bt1008.2 (wrap64 (x10_4 - 1)) (a0.extract (x1_3 : Int).toNat (t1002 : Int).toNat) x10_4 bt1008.1)) else (spec_l2ReadMatchers.l1 k4 a0 x6_3 t1002 x9_4 (wrap64 (x10_4 - 1)) (a0.extract (x1_3 : Int).toNat (t1002 : Int).toNat) x1002001_4 x1002002_4))) else (none)) else (none)) else (none)) else (spec_l2ReadMatchers.l1 k4 a0 x6_3 t1002 x9_4 (wrap64 (x10_4 - 1)) (a0.extract (x1_3 : Int).toNat (t1002 : Int).toNat) x1002001_4 x1002002_4)) else (none)) else (none)) = some (r1, r2) := H; have A24 := am_ A240; clear A240; replace H := is_ H; obtain ⟨c25, H⟩ := H; have c25b0 := decide_eq_true c25; clear c25; replace H := is_ H; obtain ⟨c26, H⟩ := H; have c26b0 := decide_eq_true c26; clear c26
             by_cases c27 : x9_4 < 0
             ·rw [if_pos c27] at H; have c27b0 := decide_eq_true c27; clear c27; replace H := is_ H; obtain ⟨c28, H⟩ := H; have c28b0 := eq_true c28; have c28b1 := decide_eq_true c28; clear c28; replace H := is_ H; obtain ⟨c29, H⟩ := H; have c29b0 := eq_true c29; have c29b1 := decide_eq_true c29; clear c29; replace H := is_ H; obtain ⟨c30, H⟩ := H; have c30b0 := eq_true c30; have c30b1 := decide_eq_true c30; (try have c30b2 := eq_false (Nat.not_lt.2 c30)); replace H := Option.bind_eq_some_iff.mp H; obtain ⟨t1007, A310, H⟩ := H; replace H : (if t1007 = true then ((spec_l2Unquote.f k4 a0 (wrap64 (t1002 + ((rdOf ByteArray.empty t1003 x10_4).size : Int)))).bind fun bt1008 => (spec_l2ReadMatchers.l1 k4 a0 x6_3 t1002 bt1008.2 (wrap64 (x10_4 - 1)) (a0.extract (x1_3 : Int).toNat (t1002 : Int).toNat) x10_4 bt1008.1)) else (spec_l2ReadMatchers.l1 k4 a0 x6_3 t1002 x9_4 (wrap64 (x10_4 - 1)) (a0.extract (x1_3 : Int).toNat (t1002 : Int).toNat) x1002001_4 x1002002_4)) = some (r1, r2) := H; have A31 := am_ A310; clear A310
              by_cases c32 : t1007 = true
              ·subst c32; replace H := it_ H; replace H := Option.bind_eq_some_iff.mp H; obtain ⟨⟨t1008, t1009⟩, A330, H⟩ := H; replace H : (spec_l2ReadMatchers.l1 k4 a0 x6_3 t1002 t1009 (wrap64 (x10_4 - 1)) (a0.extract (x1_3 : Int).toNat (t1002 : Int).toNat) x10_4 t1008) = some (r1, r2) := H; have A33 := am_ A330; clear A330; have H' := am_ H; clear H; go_wp2_with (first | ((with_reducible refine gate_callee (f := 15) rfl ?_); refine gl_ 52 Tryd.func15 #[] ?_; (with_reducible refine (spec_l2Ops.calls  t1003 _ A24.out).mono ?_); rintro e w34 ⟨v1004, rfl, ho0, hb⟩; refine ⟨_, rfl, ?_⟩; have HO1005 := am_ (Kd.R_lower ho0 (below_size bg_)); replace HO_6 := am_ (Kd.R_below (ro_ HO_6) hb); replace BK1001 := vb_ BK1001 hb; replace HB := am_ (below_step bg_ hb); (try clear hb); (try clear ho0); obtain ⟨Ao35, co35, eo35⟩ := Kd.R_slice HO1005.out; subst eo35; have p1006 : 0 ≤ (x10_4 : Int) := od_; have q1006 : x10_4 < (t1003.length : Int) := od_; obtain ⟨ad1006, e1006, hx1006_0⟩ := Kd.at_string (Kd.R_reads' HO1005.out).2.2 x10_4 p1006 q1006; cases e1006; replace p1006 := eq_true p1006; replace q1006 := eq_true q1006) | (go_at_call 16; (with_reducible refine (spec_l2Head.calls (a0.extract (t1002 : Int).toNat a0.size) ((rdOf ByteArray.empty t1003 x10_4) ++ (⟨#[34]⟩ : ByteArray)) true _ A31.out).mono ?_); rintro e w' ⟨rfl, ⟨nd, rfl⟩⟩; (try (rw [drewN_self w34]; generalize hq_ : World.drewN w34 _ = w34; have n0_ : Aside0 (Kd.R Kd.string 9 w34 w.heap.size (fun _ => True) (.slice (some ad1006) t1003.length co35) t1003) := ⟨by rw [← hq_]; exact (ro_ HO1005)⟩; have n1_ : Aside0 (Kd.R k35 35 w34 w.heap.size (fun k_ => k_ ≠ gb1001) (.slice Ao20 x6_3.length co20) x6_3) := ⟨by rw [← hq_]; exact (ro_ HO_6)⟩; have n2_ : Aside0 (w34.heap[gb1001]? = some (.cells #[.string (a0.extract (x1_3 : Int).toNat (t1002 : Int).toNat), .int .i64 x1002001_4, .string x1002002_4] 35 (0, 0))) := ⟨by rw [← hq_]; exact (vk_ BK1001)⟩; have n3_ : Aside0 (Below w.heap.size w w34) := ⟨by rw [← hq_]; exact bg_⟩; clear HO1005 HO_6 BK1001 HB hq_; have HO1005 := n0_; have HO_6 := n1_; have BK1001 := n2_; have HB := n3_; clear n0_ n1_ n2_ n3_)); have hz36 := bk3_ BK1001) | ((with_reducible refine gate_callee (f := 17) rfl ?_); refine gl_ 74 Tryd.func17 #[.string a0, .int .i64 (wrap64 (t1002 + ((rdOf ByteArray.empty t1003 x10_4).size : Int)))] ?_; (with_reducible refine (spec_l2Unquote.calls k4 a0 (wrap64 (t1002 + ((rdOf ByteArray.empty t1003 x10_4).size : Int))) t1008 t1009 _ A33.out).mono ?_); rintro e w37 ⟨rfl, hb⟩; refine ⟨_, rfl, ?_⟩; replace HO_6 := am_ (Kd.R_below (by (with_reducible repeat (first | apply Kd.R_alloc | apply Kd.R_drewN | apply Kd.R_drew)); exact (Kd.R_mono (Kd.R_far (p := ⟨gb1001, 1, none⟩) (Kd.R_mono HO_6.out (fun k_ hk => (⟨hk, hk⟩ : _ ∧ k_ ≠ gb1001))) (fun _ hk => by first | exact hk.2 | exact hk) (.int .i64 x10_4)) (fun _ h_ => h_.1))) hb); replace HO1005 := am_ (Kd.R_below (by (with_reducible repeat (first | apply Kd.R_alloc | apply Kd.R_drewN | apply Kd.R_drew)); exact (Kd.R_mono (Kd.R_far (p := ⟨gb1001, 1, none⟩) (Kd.R_types HO1005.out BK1001.out (by decide)) (fun _ hk => by first | exact hk.2 | exact hk) (.int .i64 x10_4)) (fun _ h_ => h_.1))) hb); replace BK1001 := am_ (blk_below (g := gb1001) (o := .cells #[.string (a0.extract (x1_3 : Int).toNat (t1002 : Int).toNat), .int .i64 x10_4, .string x1002002_4] 35 (0, 0)) (by (with_reducible repeat (first | refine blk_drewN ?_ _ | refine blk_drew ?_ | refine blk_alloc ?_ _)); refine blk_put (cs := #[.string (a0.extract (x1_3 : Int).toNat (t1002 : Int).toNat), .int .i64 x1002001_4, .string x1002002_4]) ?_ 1 _ rfl; (with_reducible repeat (first | refine blk_drewN ?_ _ | refine blk_drew ?_ | refine blk_alloc ?_ _)); exact BK1001.out) hb); replace HB := am_ (below_step bg_ hb); (try clear hb); have hz38 := bk3_ BK1001)); go_roundg k4
               case measure => have := HJ2.out; have := HJ8.out; have := HK3.out; have := HK4.out; omega
               case rel => exact ⟨(t1009), (wrap64 (x10_4 - 1)), (x10_4), (t1008), rs_, rs_, H', ⟨by have := HJ2.out; have := HJ8.out; have := HK3.out; have := HK4.out; omega⟩, ⟨by (with_reducible repeat (first | apply Kd.R_alloc | apply Kd.R_drewN | apply Kd.R_drew)); exact Kd.R_mono (Kd.R_far (p := ⟨gb1001, 2, none⟩) (Kd.R_mono HO_6.out (fun k_ hk => (⟨hk, hk⟩ : _ ∧ k_ ≠ gb1001))) (fun _ hk => by first | exact hk.2 | exact hk) (.string t1008)) (fun _ hk => hk.1)⟩, ⟨by (with_reducible repeat (first | refine blk_drewN ?_ _ | refine blk_drew ?_ | refine blk_alloc ?_ _)); refine blk_put (cs := #[.string (a0.extract (x1_3 : Int).toNat (t1002 : Int).toNat), .int .i64 x10_4, .string x1002002_4]) ?_ 2 _ rfl; (with_reducible repeat (first | refine blk_drewN ?_ _ | refine blk_drew ?_ | refine blk_alloc ?_ _)); exact BK1001.out⟩, ⟨bg_⟩⟩
              ·replace c32 := Bool.eq_false_iff.mpr c32; subst c32; replace H := if_ H; have H' := am_ H; clear H; go_wp2_with (first | ((with_reducible refine gate_callee (f := 15) rfl ?_); refine gl_ 52 Tryd.func15 #[] ?_; (with_reducible refine (spec_l2Ops.calls  t1003 _ A24.out).mono ?_); rintro e w39 ⟨v1004, rfl, ho0, hb⟩; refine ⟨_, rfl, ?_⟩; have HO1005 := am_ (Kd.R_lower ho0 (below_size bg_)); replace HO_6 := am_ (Kd.R_below (ro_ HO_6) hb); replace BK1001 := vb_ BK1001 hb; replace HB := am_ (below_step bg_ hb); (try clear hb); (try clear ho0); obtain ⟨Ao40, co40, eo40⟩ := Kd.R_slice HO1005.out; subst eo40; have p1006 : 0 ≤ (x10_4 : Int) := od_; have q1006 : x10_4 < (t1003.length : Int) := od_; obtain ⟨ad1006, e1006, hx1006_0⟩ := Kd.at_string (Kd.R_reads' HO1005.out).2.2 x10_4 p1006 q1006; cases e1006; replace p1006 := eq_true p1006; replace q1006 := eq_true q1006) | (go_at_call 16; (with_reducible refine (spec_l2Head.calls (a0.extract (t1002 : Int).toNat a0.size) ((rdOf ByteArray.empty t1003 x10_4) ++ (⟨#[34]⟩ : ByteArray)) false _ A31.out).mono ?_); rintro e w' ⟨rfl, ⟨nd, rfl⟩⟩)); go_roundg k4
               case measure => have := HJ2.out; have := HJ8.out; have := HK3.out; have := HK4.out; omega
               case rel => exact ⟨(x9_4), (wrap64 (x10_4 - 1)), (x1002001_4), (x1002002_4), rs_, rs_, H', ⟨by have := HJ2.out; have := HJ8.out; have := HK3.out; have := HK4.out; omega⟩, ⟨ro_ HO_6⟩, ⟨vk_ BK1001⟩, ⟨bg_⟩⟩
             ·rw [if_neg c27] at H; have c27b0 := decide_eq_false c27; clear c27; have H' := am_ H; clear H; go_wp2_with (first | ((with_reducible refine gate_callee (f := 15) rfl ?_); refine gl_ 52 Tryd.func15 #[] ?_; (with_reducible refine (spec_l2Ops.calls  t1003 _ A24.out).mono ?_); rintro e w41 ⟨v1004, rfl, ho0, hb⟩; refine ⟨_, rfl, ?_⟩; have HO1005 := am_ (Kd.R_lower ho0 (below_size bg_)); replace HO_6 := am_ (Kd.R_below (ro_ HO_6) hb); replace BK1001 := vb_ BK1001 hb; replace HB := am_ (below_step bg_ hb); (try clear hb); (try clear ho0); obtain ⟨Ao42, co42, eo42⟩ := Kd.R_slice HO1005.out; subst eo42; have p1006 : 0 ≤ (x10_4 : Int) := od_; have q1006 : x10_4 < (t1003.length : Int) := od_; obtain ⟨ad1006, e1006, hx1006_0⟩ := Kd.at_string (Kd.R_reads' HO1005.out).2.2 x10_4 p1006 q1006; cases e1006; replace p1006 := eq_true p1006; replace q1006 := eq_true q1006)); go_roundg k4
              case measure => have := HJ2.out; have := HJ8.out; have := HK3.out; have := HK4.out; omega
              case rel => exact ⟨(x9_4), (wrap64 (x10_4 - 1)), (x1002001_4), (x1002002_4), rs_, rs_, H', ⟨by have := HJ2.out; have := HJ8.out; have := HK3.out; have := HK4.out; omega⟩, ⟨ro_ HO_6⟩, ⟨vk_ BK1001⟩, ⟨bg_⟩⟩
            ·rw [if_neg c23] at H; have c23b0 : decide (1 ≤ x10_4) = false := decide_eq_false c23; clear c23; have HC43 := am_ H; clear H; go_upto_region 19 with (fail)
             go_cut [97] (fun v97 wc => ∃ (kq : Nat) (x97_42 : Bool), v97 = .bool x97_42 ∧ Aside0 (spec_l2ReadMatchers.j4 kq a0 x6_3 x9_4 x97_42 (a0.extract (x1_3 : Int).toNat (t1002 : Int).toNat) x1002001_4 x1002002_4 = some (r1, r2)) ∧ Aside0 (kq ≤ k4) ∧ Aside0 (Kd.R k35 35 wc w.heap.size (fun k_ => k_ ≠ gb1001) (.slice Ao20 x6_3.length co20) x6_3) ∧ Aside0 (wc.heap[gb1001]? = some (.cells #[.string (a0.extract (x1_3 : Int).toNat (t1002 : Int).toNat), .int .i64 x1002001_4, .string x1002002_4] 35 (0, 0))) ∧ Aside0 (Below w.heap.size w wc))
             case first =>
              have H := HC43.out; clear HC43
              by_cases c44 : x9_4 < 0
              ·rw [if_pos c44] at H; have c44b0 := decide_eq_true c44; clear c44; (first | rw [c44b0] | (simp only [i64_w, i32_w]; rw [c44b0]) | skip); have H' := am_ H; clear H; go_wp2; go_meet
               case rel => exact ⟨_, (true), rs_, H', ⟨by have := HJ2.out; have := HJ8.out; have := HK3.out; have := HK4.out; first | omega | exact Nat.le_refl _⟩, ⟨ro_ HO_6⟩, ⟨vk_ BK1001⟩, ⟨bg_⟩⟩
              ·rw [if_neg c44] at H; have c44b0 := decide_eq_false c44; clear c44; (first | rw [c44b0] | (simp only [i64_w, i32_w]; rw [c44b0]) | skip)
               by_cases c45 : x9_4 ≥ (a0.size : Int)
               ·rw [if_pos c45] at H; have c45b0 : decide ((a0.size : Int) ≤ x9_4) = true := decide_eq_true c45; clear c45; have H' := am_ H; clear H; go_wp2; go_meet
                case rel => exact ⟨_, (true), rs_, H', ⟨by have := HJ2.out; have := HJ8.out; have := HK3.out; have := HK4.out; first | omega | exact Nat.le_refl _⟩, ⟨ro_ HO_6⟩, ⟨vk_ BK1001⟩, ⟨bg_⟩⟩
               ·rw [if_neg c45] at H; have c45b0 : decide ((a0.size : Int) ≤ x9_4) = false := decide_eq_false c45; clear c45; replace H := is_ H; obtain ⟨c46, H⟩ := H; have c46b0 := decide_eq_true c46; clear c46; replace H := is_ H; obtain ⟨c47, H⟩ := H; have c47b0 := decide_eq_true c47; clear c47
                by_cases c49 : (bt a0 x9_4) = 44
                ·rw [if_pos c49] at H; have c49b0 := eb_ c49; have c49b1 := en_ c49; clear c49; have H' := am_ H; clear H; have p48 : 0 ≤ (x9_4 : Int) := od_; have q48 : x9_4 < (a0.size : Int) := od_; have hx48 := bt_at a0 x9_4; replace p48 := eq_true p48; replace q48 := eq_true q48; go_wp2; go_meet
                 case rel => exact ⟨_, (false), rs_, H', ⟨by have := HJ2.out; have := HJ8.out; have := HK3.out; have := HK4.out; first | omega | exact Nat.le_refl _⟩, ⟨ro_ HO_6⟩, ⟨vk_ BK1001⟩, ⟨bg_⟩⟩
                ·rw [if_neg c49] at H; have c49b0 := nb_ c49; have c49b1 := nn_ c49; have H' := am_ H; clear H; have p48 : 0 ≤ (x9_4 : Int) := od_; have q48 : x9_4 < (a0.size : Int) := od_; have hx48 := bt_at a0 x9_4; replace p48 := eq_true p48; replace q48 := eq_true q48; have p50 : 0 ≤ (x9_4 : Int) := od_; have q50 : x9_4 < (a0.size : Int) := od_; have hx50 := bt_at a0 x9_4; replace p50 := eq_true p50; replace q50 := eq_true q50; go_wp2; go_meet
                 case rel => exact ⟨_, (((bt a0 x9_4) != 125)), rs_, H', ⟨by have := HJ2.out; have := HJ8.out; have := HK3.out; have := HK4.out; first | omega | exact Nat.le_refl _⟩, ⟨ro_ HO_6⟩, ⟨vk_ BK1001⟩, ⟨bg_⟩⟩
             case rest =>
              clear HC43; (try clear c23); (try clear c23b0); obtain ⟨kq, x97_42, rfl, HA, HJ42, HO_6, BK1001, HB⟩ := hcut
              cases kq with
              | zero => exact absurd HA.out (by simp [spec_l2ReadMatchers.j4])
              | succ kj42 =>
               have H := HA.out; clear HA; simp only [spec_l2ReadMatchers.j4] at H
               by_cases c51 : x97_42 = true
               ·subst c51; replace H := it_ H; simp only [Option.some.injEq, Prod.mk.injEq] at H; obtain ⟨rfl, rfl⟩ := H; go_wp2; go_ret2; exact ⟨_, rf_, ni_, bg_⟩
               ·replace c51 := Bool.eq_false_iff.mpr c51; subst c51; replace H := if_ H; replace H := is_ H; obtain ⟨c52, H⟩ := H; have LMc52 := am_ c52; clear c52; obtain ⟨y1010, hy1010⟩ : ∃ y_ : List (S35), y_ = (x6_3 ++ [(⟨(a0.extract (x1_3 : Int).toNat (t1002 : Int).toNat), x1002001_4, x1002002_4⟩ : S35)]) := ⟨_, rfl⟩; replace H : (if 0 ≤ x9_4 then (if x9_4 < (a0.size : Int) then (if (bt a0 x9_4) = 125 then ((spec_GoodMatchers.f kj42 y1010).bind fun t1013 => (if t1013 = true then (some (y1010, wrap64 (x9_4 + 1))) else (some (([] : List (S35)), (-1))))) else (spec_l2ReadMatchers.l0 kj42 a0 (wrap64 (x9_4 + 1)) y1010)) else (none)) else (none)) = some (r1, r2) := by first | (rw [hy1010]; with_reducible exact H) | (have H2_ := (Option.bind_some _ _).symm.trans H; rw [hy1010]; with_reducible exact H2_) | (have H2_ := (Option.bind_some _ _).symm.trans H; with_reducible exact H2_) | with_reducible exact H | (rw [hy1010]; exact H) | exact H
                have Ny1010 := am_ hy1010; clear hy1010; replace H := is_ H; obtain ⟨c53, H⟩ := H; have c53b0 := decide_eq_true c53; clear c53; replace H := is_ H; obtain ⟨c54, H⟩ := H; have c54b0 := decide_eq_true c54; clear c54
                by_cases c56 : (bt a0 x9_4) = 125
                ·rw [if_pos c56] at H; have c56b0 := eb_ c56; have c56b1 := en_ c56; clear c56; replace H := Option.bind_eq_some_iff.mp H; obtain ⟨t1013, A570, H⟩ := H; replace H : (if t1013 = true then (some (y1010, wrap64 (x9_4 + 1))) else (some (([] : List (S35)), (-1)))) = some (r1, r2) := H; have A57 := am_ A570; clear A570
                 by_cases c58 : t1013 = true
                 ·subst c58; replace H := it_ H; simp only [Option.some.injEq, Prod.mk.injEq] at H; obtain ⟨rfl, rfl⟩ := H; have hz59 := bk3_ BK1001; go_wp2_with (first | ((with_reducible refine gate_builtin (b := .append) (xs := #[.tmp 98, .tmp 100]) rfl ?_); (try (refine gate_guard (by rfl) ?_; dsimp only)); at_builtin; refine Kd.R_append k35 (w0 := w) w.heap.size rfl (.tmp 98) (.tmp 100) 22 35 (.agg #[(.string ⟨#[]⟩), (.int .i64 0), (.string ⟨#[]⟩)]) 40 rfl Tryd.underlying22 info35 rfl (by decide) (by omega) (.slice Ao20 x6_3.length co20) x6_3 (⟨(a0.extract (x1_3 : Int).toNat (t1002 : Int).toNat), x1002001_4, x1002002_4⟩ : S35) [.string (a0.extract (x1_3 : Int).toNat (t1002 : Int).toNat), .int .i64 x1002001_4, .string x1002002_4] (fun k_ => k_ ≠ gb1001) (fun _ => False) rfl rfl ?aP (fun _ hk => hk.elim) ?aF ?aO ?aB ?aS ?aL ?_; (case aP => exact k35_mkM _ _ _ (⟨(a0.extract (x1_3 : Int).toNat (t1002 : Int).toNat), x1002001_4, x1002002_4⟩ : S35)); (case aB => exact bg_); (case aF => exact (fun k_ hk => Kd.freshB (g := gb1001) (o := .cells #[.string (a0.extract (x1_3 : Int).toNat (t1002 : Int).toNat), .int .i64 x1002001_4, .string x1002002_4] 35 (0, 0)) (vk_ BK1001) k_ hk)); (case aO => exact (ro_ HO_6)); (case aS => exact (below_size bg_)); (case aL => have := LMc52.out; omega); intro v1011 w60 ho hb hg hat; rw [← Ny1010.out] at ho; have n0_ := am_ (blk_grown (g := gb1001) (o := .cells #[.string (a0.extract (x1_3 : Int).toNat (t1002 : Int).toNat), .int .i64 x1002001_4, .string x1002002_4] 35 (0, 0)) (vk_ BK1001) hg (Kd.R_away HO_6.out (fun _ hk => hk))); have n1_ := am_ (hb); have n2_ := am_ (ho); clear BK1001; clear HB; clear HO_6; have BK1001 := n0_; have HB := n1_; have HO1012 := n2_; clear n0_ n1_ n2_; clear ho hb hg hat; have p55 : 0 ≤ (x9_4 : Int) := od_; have q55 : x9_4 < (a0.size : Int) := od_; have hx55 := bt_at a0 x9_4; replace p55 := eq_true p55; replace q55 := eq_true q55; obtain ⟨Ao61, co61, eo61⟩ := Kd.R_slice HO1012.out; subst eo61) | ((with_reducible refine gate_callee (f := 18) rfl ?_); refine gl_ 107 Tryd.func18 #[.slice Ao61 y1010.length co61] ?_; (with_reducible refine (spec_GoodMatchers.calls kj42 _ _ y1010 true _ ?side1 ?side2 A57.out).mono ?_); (case side1 => exact cc_ (Kd.R_reads' HO1012.out).2.2); (case side2 => exact (Kd.R_reads' HO1012.out).2.1); rintro e w62 ⟨rfl, hb⟩; refine ⟨_, rfl, ?_⟩; replace HO1012 := am_ (Kd.R_below (ro_ HO1012) hb); replace BK1001 := vb_ BK1001 hb; replace HB := am_ (below_step bg_ hb); (try clear hb))); go_ret2; exact ⟨_, rf_, by (with_reducible repeat (first | apply Kd.R_alloc | apply Kd.R_drewN | apply Kd.R_drew)); exact Kd.R_mono HO1012.out (fun _ hk => trivial), bg_⟩
                 ·replace c58 := Bool.eq_false_iff.mpr c58; subst c58; replace H := if_ H; simp only [Option.some.injEq, Prod.mk.injEq] at H; obtain ⟨rfl, rfl⟩ := H; have hz63 := bk3_ BK1001; go_wp2_with (first | ((with_reducible refine gate_builtin (b := .append) (xs := #[.tmp 98, .tmp 100]) rfl ?_); (try (refine gate_guard (by rfl) ?_; dsimp only)); at_builtin; refine Kd.R_append k35 (w0 := w) w.heap.size rfl (.tmp 98) (.tmp 100) 22 35 (.agg #[(.string ⟨#[]⟩), (.int .i64 0), (.string ⟨#[]⟩)]) 40 rfl Tryd.underlying22 info35 rfl (by decide) (by omega) (.slice Ao20 x6_3.length co20) x6_3 (⟨(a0.extract (x1_3 : Int).toNat (t1002 : Int).toNat), x1002001_4, x1002002_4⟩ : S35) [.string (a0.extract (x1_3 : Int).toNat (t1002 : Int).toNat), .int .i64 x1002001_4, .string x1002002_4] (fun k_ => k_ ≠ gb1001) (fun _ => False) rfl rfl ?aP (fun _ hk => hk.elim) ?aF ?aO ?aB ?aS ?aL ?_; (case aP => exact k35_mkM _ _ _ (⟨(a0.extract (x1_3 : Int).toNat (t1002 : Int).toNat), x1002001_4, x1002002_4⟩ : S35)); (case aB => exact bg_); (case aF => exact (fun k_ hk => Kd.freshB (g := gb1001) (o := .cells #[.string (a0.extract (x1_3 : Int).toNat (t1002 : Int).toNat), .int .i64 x1002001_4, .string x1002002_4] 35 (0, 0)) (vk_ BK1001) k_ hk)); (case aO => exact (ro_ HO_6)); (case aS => exact (below_size bg_)); (case aL => have := LMc52.out; omega); intro v1011 w64 ho hb hg hat; rw [← Ny1010.out] at ho; have n0_ := am_ (blk_grown (g := gb1001) (o := .cells #[.string (a0.extract (x1_3 : Int).toNat (t1002 : Int).toNat), .int .i64 x1002001_4, .string x1002002_4] 35 (0, 0)) (vk_ BK1001) hg (Kd.R_away HO_6.out (fun _ hk => hk))); have n1_ := am_ (hb); have n2_ := am_ (ho); clear BK1001; clear HB; clear HO_6; have BK1001 := n0_; have HB := n1_; have HO1012 := n2_; clear n0_ n1_ n2_; clear ho hb hg hat; have p55 : 0 ≤ (x9_4 : Int) := od_; have q55 : x9_4 < (a0.size : Int) := od_; have hx55 := bt_at a0 x9_4; replace p55 := eq_true p55; replace q55 := eq_true q55; obtain ⟨Ao65, co65, eo65⟩ := Kd.R_slice HO1012.out; subst eo65) | ((with_reducible refine gate_callee (f := 18) rfl ?_); refine gl_ 107 Tryd.func18 #[.slice Ao65 y1010.length co65] ?_; (with_reducible refine (spec_GoodMatchers.calls kj42 _ _ y1010 false _ ?side1 ?side2 A57.out).mono ?_); (case side1 => exact cc_ (Kd.R_reads' HO1012.out).2.2); (case side2 => exact (Kd.R_reads' HO1012.out).2.1); rintro e w66 ⟨rfl, hb⟩; refine ⟨_, rfl, ?_⟩; replace HO1012 := am_ (Kd.R_below (ro_ HO1012) hb); replace BK1001 := vb_ BK1001 hb; replace HB := am_ (below_step bg_ hb); (try clear hb))); go_ret2; exact ⟨_, rf_, ni_, bg_⟩
                ·rw [if_neg c56] at H; have c56b0 := nb_ c56; have c56b1 := nn_ c56; have H' := am_ H; clear H; have hz67 := bk3_ BK1001; go_wp2_with (first | ((with_reducible refine gate_builtin (b := .append) (xs := #[.tmp 98, .tmp 100]) rfl ?_); (try (refine gate_guard (by rfl) ?_; dsimp only)); at_builtin; refine Kd.R_append k35 (w0 := w) w.heap.size rfl (.tmp 98) (.tmp 100) 22 35 (.agg #[(.string ⟨#[]⟩), (.int .i64 0), (.string ⟨#[]⟩)]) 40 rfl Tryd.underlying22 info35 rfl (by decide) (by omega) (.slice Ao20 x6_3.length co20) x6_3 (⟨(a0.extract (x1_3 : Int).toNat (t1002 : Int).toNat), x1002001_4, x1002002_4⟩ : S35) [.string (a0.extract (x1_3 : Int).toNat (t1002 : Int).toNat), .int .i64 x1002001_4, .string x1002002_4] (fun k_ => k_ ≠ gb1001) (fun _ => False) rfl rfl ?aP (fun _ hk => hk.elim) ?aF ?aO ?aB ?aS ?aL ?_; (case aP => exact k35_mkM _ _ _ (⟨(a0.extract (x1_3 : Int).toNat (t1002 : Int).toNat), x1002001_4, x1002002_4⟩ : S35)); (case aB => exact bg_); (case aF => exact (fun k_ hk => Kd.freshB (g := gb1001) (o := .cells #[.string (a0.extract (x1_3 : Int).toNat (t1002 : Int).toNat), .int .i64 x1002001_4, .string x1002002_4] 35 (0, 0)) (vk_ BK1001) k_ hk)); (case aO => exact (ro_ HO_6)); (case aS => exact (below_size bg_)); (case aL => have := LMc52.out; omega); intro v1011 w68 ho hb hg hat; rw [← Ny1010.out] at ho; have n0_ := am_ (blk_grown (g := gb1001) (o := .cells #[.string (a0.extract (x1_3 : Int).toNat (t1002 : Int).toNat), .int .i64 x1002001_4, .string x1002002_4] 35 (0, 0)) (vk_ BK1001) hg (Kd.R_away HO_6.out (fun _ hk => hk))); have n1_ := am_ (hb); have n2_ := am_ (ho); clear BK1001; clear HB; clear HO_6; have BK1001 := n0_; have HB := n1_; have HO1012 := n2_; clear n0_ n1_ n2_; clear ho hb hg hat; have p55 : 0 ≤ (x9_4 : Int) := od_; have q55 : x9_4 < (a0.size : Int) := od_; have hx55 := bt_at a0 x9_4; replace p55 := eq_true p55; replace q55 := eq_true q55)); go_roundg kj42
                 case measure => have := HJ2.out; have := HJ8.out; have := HK3.out; have := HK4.out; have := HJ42.out; omega
                 case rel => exact ⟨(wrap64 (x9_4 + 1)), (y1010), rs_, H', ⟨by have := HJ2.out; have := HJ8.out; have := HK3.out; have := HK4.out; have := HJ42.out; omega⟩, ⟨by (with_reducible repeat (first | apply Kd.R_alloc | apply Kd.R_drewN | apply Kd.R_drew)); exact Kd.R_mono HO1012.out (fun _ hk => trivial)⟩, ⟨bg_⟩⟩
         ·rw [if_neg c15] at H; have c15b0 := decide_eq_false c15; have c15b1 : decide (x6_3.length ≤ 10) = false := decide_eq_false (by omega); clear c15; simp only [Option.some.injEq, Prod.mk.injEq] at H; obtain ⟨rfl, rfl⟩ := H; obtain ⟨Ao69, co69, eo69⟩ := Kd.R_slice HO_6.out; subst eo69; go_wp2; go_ret2; exact ⟨_, rf_, ni_, bl_⟩

/-! ### spec_ReadMatchers: function 4 -/
def spec_ReadMatchers.f (k : Nat) (a0 : ByteArray) : Option ((List (S35)) × Bool) := (spec_l2ReadMatchers.f k a0 0).bind fun bt1001 => (if bt1001.2 = (a0.size : Int) then (some (bt1001.1, true)) else (some (([] : List (S35)), false)))
theorem spec_ReadMatchers.mono : ∀ a0 k, LeO (spec_ReadMatchers.f k a0) (spec_ReadMatchers.f (k + 1) a0) := by
 intro a0 k
 unfold spec_ReadMatchers.f
 repeat' with_reducible first | apply spec_l2ReadMatchers.mono | apply LeO.refl | apply LeO.none | apply LeO.ite | refine LeO.bind ?_ (fun _ => ?_)
set_option maxHeartbeats 8000000 in
set_option maxRecDepth 100000 in
theorem spec_ReadMatchers.calls (k : Nat) (a0 : ByteArray) (r1 : List (S35)) (r2 : Bool) (w : World) (h : spec_ReadMatchers.f k a0 = some (r1, r2)) :
  Calls Tryd.prog 4 #[.string a0] w fun e w' => ∃ v0_ : Value, e = .returned (.tuple #[v0_, .bool r2]) ∧ Kd.R k35 35 w' w.heap.size (fun _ => True) v0_ r1 ∧ Below w.heap.size w w' := by
 have HB := am_ (Below.refl w.heap.size w); have H : ((spec_l2ReadMatchers.f k a0 0).bind fun bt1001 => (if bt1001.2 = (a0.size : Int) then (some (bt1001.1, true)) else (some (([] : List (S35)), false)))) = some (r1, r2) := h; clear h; replace H := Option.bind_eq_some_iff.mp H; obtain ⟨⟨t1001, t1002⟩, A20, H⟩ := H; replace H : (if t1002 = (a0.size : Int) then (some (t1001, true)) else (some (([] : List (S35)), false))) = some (r1, r2) := H; have A2 := am_ A20; clear A20
 by_cases c3 : t1002 = (a0.size : Int)
 ·rw [if_pos c3] at H; have c3b0 := eb_ c3; have c3b1 := en_ c3; clear c3; simp only [Option.some.injEq, Prod.mk.injEq] at H; obtain ⟨rfl, rfl⟩ := H; go_enter Tryd.func4, Tryd.ntmps4; go_wp2_with (first | ((with_reducible refine gate_callee (f := 9) rfl ?_); refine gl_ 8 Tryd.func9 #[.string a0, .int .i64 0] ?_; (with_reducible refine (spec_l2ReadMatchers.calls k a0 0 t1001 t1002 _ A2.out).mono ?_); rintro e w4 ⟨v1003, rfl, ho0, hb⟩; refine ⟨_, rfl, ?_⟩; have HO1004 := am_ (Kd.R_lower ho0 (below_size bl_)); replace HB := am_ (below_step bl_ hb); (try clear hb); (try clear ho0))); go_ret2; exact ⟨_, rf_, by (with_reducible repeat (first | apply Kd.R_alloc | apply Kd.R_drewN | apply Kd.R_drew)); exact HO1004.out, bl_⟩
 ·rw [if_neg c3] at H; have c3b0 := nb_ c3; have c3b1 := nn_ c3; simp only [Option.some.injEq, Prod.mk.injEq] at H; obtain ⟨rfl, rfl⟩ := H; go_enter Tryd.func4, Tryd.ntmps4; go_wp2_with (first | ((with_reducible refine gate_callee (f := 9) rfl ?_); refine gl_ 8 Tryd.func9 #[.string a0, .int .i64 0] ?_; (with_reducible refine (spec_l2ReadMatchers.calls k a0 0 t1001 t1002 _ A2.out).mono ?_); rintro e w5 ⟨v1003, rfl, ho0, hb⟩; refine ⟨_, rfl, ?_⟩; have HO1004 := am_ (Kd.R_lower ho0 (below_size bl_)); replace HB := am_ (below_step bl_ hb); (try clear hb); (try clear ho0))); go_ret2; exact ⟨_, rf_, ni_, bl_⟩

/-! ### stringslite_HasPrefix: function 31 -/
def stringslite_HasPrefix.f (a0 : ByteArray) (a1 : ByteArray) : Option (Bool) := if (a0.size : Int) ≥ (a1.size : Int) then (if 0 ≤ (a1.size : Int) then (if (a1.size : Int) ≤ (a0.size : Int) then (some ((a0.extract 0 ((a1.size : Int) : Int).toNat).toList == a1.toList)) else (none)) else (none)) else (some false)
set_option maxHeartbeats 8000000 in
set_option maxRecDepth 100000 in
theorem stringslite_HasPrefix.calls (a0 : ByteArray) (a1 : ByteArray) (r : Bool) (w : World) (h : stringslite_HasPrefix.f a0 a1 = some r) :
  Calls Tryd.prog 31 #[.string a0, .string a1] w fun e w' => e = .returned (.bool r) ∧ Drawn0 w w' := by
 have H := h; clear h; unfold stringslite_HasPrefix.f at H
 by_cases c3 : (a0.size : Int) ≥ (a1.size : Int)
 ·rw [if_pos c3] at H; have c3b0 : decide ((a1.size : Int) ≤ (a0.size : Int)) = true := decide_eq_true c3; have c3b1 : decide (a1.size ≤ a0.size) = true := decide_eq_true (Int.ofNat_le.mp c3); clear c3; replace H := is_ H; obtain ⟨c4, H⟩ := H; have c4b0 := eq_true c4; have c4b1 := decide_eq_true c4; clear c4; replace H := is_ H; obtain ⟨c5, H⟩ := H; have c5b0 := eq_true c5; have c5b1 := decide_eq_true c5; clear c5; obtain rfl := si_ H; go_enter Tryd.func31, Tryd.ntmps31; go_wp2; go_ret; exact ⟨by first | rfl | (simp; done) | (simp [*]; done), by repeat (first | exact Drawn0.refl _ | apply Drawn0.step)⟩
 ·rw [if_neg c3] at H; have c3b0 : decide ((a1.size : Int) ≤ (a0.size : Int)) = false := decide_eq_false c3; have c3b1 : decide (a1.size ≤ a0.size) = false := decide_eq_false (fun h => c3 (Int.ofNat_le.mpr h)); clear c3; obtain rfl := si_ H; go_enter Tryd.func31, Tryd.ntmps31; go_wp2; go_ret; exact ⟨by first | rfl | (simp; done) | (simp [*]; done), by repeat (first | exact Drawn0.refl _ | apply Drawn0.step)⟩

/-! ### stringslite_CutPrefix: function 30 -/
def stringslite_CutPrefix.f (a0 : ByteArray) (a1 : ByteArray) : Option (ByteArray × Bool) := (stringslite_HasPrefix.f a0 a1).bind fun t1001 => (if t1001 = true then (if 0 ≤ (a1.size : Int) then (if (a1.size : Int) ≤ (a0.size : Int) then (some (a0.extract ((a1.size : Int) : Int).toNat a0.size, true)) else (none)) else (none)) else (some (a0, false)))
set_option maxHeartbeats 8000000 in
set_option maxRecDepth 100000 in
theorem stringslite_CutPrefix.calls (a0 : ByteArray) (a1 : ByteArray) (r1 : ByteArray) (r2 : Bool) (w : World) (h : stringslite_CutPrefix.f a0 a1 = some (r1, r2)) :
  Calls Tryd.prog 30 #[.string a0, .string a1] w fun e w' => e = .returned (.tuple #[.string r1, .bool r2]) ∧ Drawn0 w w' := by
 have H : ((stringslite_HasPrefix.f a0 a1).bind fun t1001 => (if t1001 = true then (if 0 ≤ (a1.size : Int) then (if (a1.size : Int) ≤ (a0.size : Int) then (some (a0.extract ((a1.size : Int) : Int).toNat a0.size, true)) else (none)) else (none)) else (some (a0, false)))) = some (r1, r2) := h; clear h; replace H := Option.bind_eq_some_iff.mp H; obtain ⟨t1001, A30, H⟩ := H; replace H : (if t1001 = true then (if 0 ≤ (a1.size : Int) then (if (a1.size : Int) ≤ (a0.size : Int) then (some (a0.extract ((a1.size : Int) : Int).toNat a0.size, true)) else (none)) else (none)) else (some (a0, false))) = some (r1, r2) := H; have A3 := am_ A30; clear A30
 by_cases c4 : t1001 = true
 ·subst c4; replace H := it_ H; replace H := is_ H; obtain ⟨c5, H⟩ := H; have c5b0 := eq_true c5; have c5b1 := decide_eq_true c5; clear c5; replace H := is_ H; obtain ⟨c6, H⟩ := H; have c6b0 := eq_true c6; have c6b1 := decide_eq_true c6; clear c6; simp only [Option.some.injEq, Prod.mk.injEq] at H; obtain ⟨rfl, rfl⟩ := H; go_enter Tryd.func30, Tryd.ntmps30; go_wp2_with (first | ((with_reducible refine gate_callee (f := 31) rfl ?_); refine gl_ 8 Tryd.func31 #[.string a0, .string a1] ?_; (with_reducible refine (stringslite_HasPrefix.calls a0 a1 true _ A3.out).mono ?_); rintro e w' ⟨rfl, ⟨nd, rfl⟩⟩; refine ⟨_, rfl, ?_⟩)); go_ret2; exact ⟨by first | rfl | (simp; done) | (simp [*]; done), by repeat (first | exact Drawn0.refl _ | apply Drawn0.step)⟩
 ·replace c4 := Bool.eq_false_iff.mpr c4; subst c4; replace H := if_ H; simp only [Option.some.injEq, Prod.mk.injEq] at H; obtain ⟨rfl, rfl⟩ := H; go_enter Tryd.func30, Tryd.ntmps30; go_wp2_with (first | ((with_reducible refine gate_callee (f := 31) rfl ?_); refine gl_ 8 Tryd.func31 #[.string a0, .string a1] ?_; (with_reducible refine (stringslite_HasPrefix.calls a0 a1 false _ A3.out).mono ?_); rintro e w' ⟨rfl, ⟨nd, rfl⟩⟩; refine ⟨_, rfl, ?_⟩)); go_ret2; exact ⟨by first | rfl | (simp; done) | (simp [*]; done), by repeat (first | exact Drawn0.refl _ | apply Drawn0.step)⟩

/-! ### strings_CutPrefix: function 19 -/
def strings_CutPrefix.f (a0 : ByteArray) (a1 : ByteArray) : Option (ByteArray × Bool) := (stringslite_CutPrefix.f a0 a1).bind fun bt1001 => (some (bt1001.1, bt1001.2))
set_option maxHeartbeats 8000000 in
set_option maxRecDepth 100000 in
theorem strings_CutPrefix.calls (a0 : ByteArray) (a1 : ByteArray) (r1 : ByteArray) (r2 : Bool) (w : World) (h : strings_CutPrefix.f a0 a1 = some (r1, r2)) :
  Calls Tryd.prog 19 #[.string a0, .string a1] w fun e w' => e = .returned (.tuple #[.string r1, .bool r2]) ∧ Drawn0 w w' := by
 have H : ((stringslite_CutPrefix.f a0 a1).bind fun bt1001 => (some (bt1001.1, bt1001.2))) = some (r1, r2) := h; clear h; replace H := Option.bind_eq_some_iff.mp H; obtain ⟨⟨t1001, t1002⟩, A30, H⟩ := H; replace H : (some (t1001, t1002)) = some (r1, r2) := H; have A3 := am_ A30; clear A30; simp only [Option.some.injEq, Prod.mk.injEq] at H; obtain ⟨rfl, rfl⟩ := H; go_enter Tryd.func19, Tryd.ntmps19; go_wp2_with (first | ((with_reducible refine gate_callee (f := 30) rfl ?_); refine gl_ 8 Tryd.func30 #[.string a0, .string a1] ?_; (with_reducible refine (stringslite_CutPrefix.calls a0 a1 t1001 t1002 _ A3.out).mono ?_); rintro e w' ⟨rfl, ⟨nd, rfl⟩⟩; refine ⟨_, rfl, ?_⟩)); go_ret2; exact ⟨by first | rfl | (simp; done) | (simp [*]; done), by repeat (first | exact Drawn0.refl _ | apply Drawn0.step)⟩

/-! ### strings_HasPrefix: function 20 -/
def strings_HasPrefix.f (a0 : ByteArray) (a1 : ByteArray) : Option (Bool) := (stringslite_HasPrefix.f a0 a1).bind fun t1001 => (some t1001)
set_option maxHeartbeats 8000000 in
set_option maxRecDepth 100000 in
theorem strings_HasPrefix.calls (a0 : ByteArray) (a1 : ByteArray) (r : Bool) (w : World) (h : strings_HasPrefix.f a0 a1 = some r) :
  Calls Tryd.prog 20 #[.string a0, .string a1] w fun e w' => e = .returned (.bool r) ∧ Drawn0 w w' := by
 have H := h; clear h; unfold strings_HasPrefix.f at H; replace H := bs_ H; obtain ⟨t1001, A3, H⟩ := H; obtain rfl := si_ H; go_enter Tryd.func20, Tryd.ntmps20; go_wp2_with (first | ((with_reducible refine gate_callee (f := 31) rfl ?_); refine gl_ 7 Tryd.func31 #[.string a0, .string a1] ?_; (with_reducible refine (stringslite_HasPrefix.calls a0 a1 t1001 _ A3.out).mono ?_); rintro e w' ⟨rfl, ⟨nd, rfl⟩⟩; refine ⟨_, rfl, ?_⟩)); go_ret; exact ⟨by first | rfl | (simp; done) | (simp [*]; done), by repeat (first | exact Drawn0.refl _ | apply Drawn0.step)⟩

/-! ### impl_letterByte: function 49 -/
def impl_letterByte.f (a0 : Int) : Option (Bool) := if a0 ≥ 97 then (if a0 ≤ 122 then (some true) else (if a0 ≥ 65 then (some (decide (a0 ≤ 90))) else (some false))) else (if a0 ≥ 65 then (some (decide (a0 ≤ 90))) else (some false))
set_option maxHeartbeats 8000000 in
set_option maxRecDepth 100000 in
theorem impl_letterByte.calls (a0 : Int) (r : Bool) (w : World) (h : impl_letterByte.f a0 = some r) :
  Calls Tryd.prog 49 #[.int .u8 a0] w fun e w' => e = .returned (.bool r) ∧ Drawn0 w w' := by
 have H := h; clear h; unfold impl_letterByte.f at H
 by_cases c2 : a0 ≥ 97
 ·rw [if_pos c2] at H; have c2b0 : decide (97 ≤ a0) = true := decide_eq_true c2; clear c2
  by_cases c3 : a0 ≤ 122
  ·rw [if_pos c3] at H; have c3b0 := decide_eq_true c3; clear c3; obtain rfl := si_ H; go_enter Tryd.func49, Tryd.ntmps49; go_wp2; go_ret; exact ⟨by first | rfl | (simp; done) | (simp [*]; done), by repeat (first | exact Drawn0.refl _ | apply Drawn0.step)⟩
  ·rw [if_neg c3] at H; have c3b0 := decide_eq_false c3; clear c3
   by_cases c4 : a0 ≥ 65
   ·rw [if_pos c4] at H; have c4b0 : decide (65 ≤ a0) = true := decide_eq_true c4; clear c4; obtain rfl := si_ H; go_enter Tryd.func49, Tryd.ntmps49; go_wp2; go_ret; exact ⟨by first | rfl | (simp; done) | (simp [*]; done), by repeat (first | exact Drawn0.refl _ | apply Drawn0.step)⟩
   ·rw [if_neg c4] at H; have c4b0 : decide (65 ≤ a0) = false := decide_eq_false c4; clear c4; obtain rfl := si_ H; go_enter Tryd.func49, Tryd.ntmps49; go_wp2; go_ret; exact ⟨by first | rfl | (simp; done) | (simp [*]; done), by repeat (first | exact Drawn0.refl _ | apply Drawn0.step)⟩
 ·rw [if_neg c2] at H; have c2b0 : decide (97 ≤ a0) = false := decide_eq_false c2; clear c2
  by_cases c5 : a0 ≥ 65
  ·rw [if_pos c5] at H; have c5b0 : decide (65 ≤ a0) = true := decide_eq_true c5; clear c5; obtain rfl := si_ H; go_enter Tryd.func49, Tryd.ntmps49; go_wp2; go_ret; exact ⟨by first | rfl | (simp; done) | (simp [*]; done), by repeat (first | exact Drawn0.refl _ | apply Drawn0.step)⟩
  ·rw [if_neg c5] at H; have c5b0 : decide (65 ≤ a0) = false := decide_eq_false c5; clear c5; obtain rfl := si_ H; go_enter Tryd.func49, Tryd.ntmps49; go_wp2; go_ret; exact ⟨by first | rfl | (simp; done) | (simp [*]; done), by repeat (first | exact Drawn0.refl _ | apply Drawn0.step)⟩

/-! ### impl_digitByte: function 50 -/
def impl_digitByte.f (a0 : Int) : Option (Bool) := if a0 ≥ 48 then (some (decide (a0 ≤ 57))) else (some false)
set_option maxHeartbeats 8000000 in
set_option maxRecDepth 100000 in
theorem impl_digitByte.calls (a0 : Int) (r : Bool) (w : World) (h : impl_digitByte.f a0 = some r) :
  Calls Tryd.prog 50 #[.int .u8 a0] w fun e w' => e = .returned (.bool r) ∧ Drawn0 w w' := by
 have H := h; clear h; unfold impl_digitByte.f at H
 by_cases c2 : a0 ≥ 48
 ·rw [if_pos c2] at H; have c2b0 : decide (48 ≤ a0) = true := decide_eq_true c2; clear c2; obtain rfl := si_ H; go_enter Tryd.func50, Tryd.ntmps50; go_wp2; go_ret; exact ⟨by first | rfl | (simp; done) | (simp [*]; done), by repeat (first | exact Drawn0.refl _ | apply Drawn0.step)⟩
 ·rw [if_neg c2] at H; have c2b0 : decide (48 ≤ a0) = false := decide_eq_false c2; clear c2; obtain rfl := si_ H; go_enter Tryd.func50, Tryd.ntmps50; go_wp2; go_ret; exact ⟨by first | rfl | (simp; done) | (simp [*]; done), by repeat (first | exact Drawn0.refl _ | apply Drawn0.step)⟩

/-! ### impl_wordByte: function 42 -/
def impl_wordByte.f (a0 : Int) : Option (Bool) := (impl_letterByte.f a0).bind fun t1001 => (if t1001 = true then (some true) else ((impl_digitByte.f a0).bind fun t1002 => (if t1002 = true then (some true) else (some (a0 == 95)))))
set_option maxHeartbeats 8000000 in
set_option maxRecDepth 100000 in
theorem impl_wordByte.calls (a0 : Int) (r : Bool) (w : World) (h : impl_wordByte.f a0 = some r) :
  Calls Tryd.prog 42 #[.int .u8 a0] w fun e w' => e = .returned (.bool r) ∧ Drawn0 w w' := by
 have H := h; clear h; unfold impl_wordByte.f at H; replace H := bs_ H; obtain ⟨t1001, A2, H⟩ := H
 by_cases c3 : t1001 = true
 ·subst c3; replace H := it_ H; obtain rfl := si_ H; go_enter Tryd.func42, Tryd.ntmps42; go_wp2_with (first | ((with_reducible refine gate_callee (f := 49) rfl ?_); refine gl_ 4 Tryd.func49 #[.int .u8 a0] ?_; (with_reducible refine (impl_letterByte.calls a0 true _ A2.out).mono ?_); rintro e w' ⟨rfl, ⟨nd, rfl⟩⟩; refine ⟨_, rfl, ?_⟩)); go_ret; exact ⟨by first | rfl | (simp; done) | (simp [*]; done), by repeat (first | exact Drawn0.refl _ | apply Drawn0.step)⟩
 ·replace c3 := Bool.eq_false_iff.mpr c3; subst c3; replace H := if_ H; replace H := bs_ H; obtain ⟨t1002, A4, H⟩ := H
  by_cases c5 : t1002 = true
  ·subst c5; replace H := it_ H; obtain rfl := si_ H; go_enter Tryd.func42, Tryd.ntmps42; go_wp2_with (first | ((with_reducible refine gate_callee (f := 49) rfl ?_); refine gl_ 4 Tryd.func49 #[.int .u8 a0] ?_; (with_reducible refine (impl_letterByte.calls a0 false _ A2.out).mono ?_); rintro e w' ⟨rfl, ⟨nd, rfl⟩⟩; refine ⟨_, rfl, ?_⟩) | (go_at_call 50; (with_reducible refine (impl_digitByte.calls a0 true _ A4.out).mono ?_); rintro e w' ⟨rfl, ⟨nd, rfl⟩⟩)); go_ret; exact ⟨by first | rfl | (simp; done) | (simp [*]; done), by repeat (first | exact Drawn0.refl _ | apply Drawn0.step)⟩
  ·replace c5 := Bool.eq_false_iff.mpr c5; subst c5; replace H := if_ H; obtain rfl := si_ H; go_enter Tryd.func42, Tryd.ntmps42; go_wp2_with (first | ((with_reducible refine gate_callee (f := 49) rfl ?_); refine gl_ 4 Tryd.func49 #[.int .u8 a0] ?_; (with_reducible refine (impl_letterByte.calls a0 false _ A2.out).mono ?_); rintro e w' ⟨rfl, ⟨nd, rfl⟩⟩; refine ⟨_, rfl, ?_⟩) | (go_at_call 50; (with_reducible refine (impl_digitByte.calls a0 false _ A4.out).mono ?_); rintro e w' ⟨rfl, ⟨nd, rfl⟩⟩)); go_ret; exact ⟨by first | rfl | (simp; done) | (simp [*]; done), by repeat (first | exact Drawn0.refl _ | apply Drawn0.step)⟩

end Go.Proofs.YtlibcibpflfboaaDoor.Pr
